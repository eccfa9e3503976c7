/- Part 17 of the proof. -/
import Derived.Test.YthbdjmopolpjmaaGreatDoorK15
import Derived.Test.YthbdjmopolpjmaaGreatDoorK16
set_option linter.unusedVariables false
set_option linter.unusedSimpArgs false
set_option maxHeartbeats 8000000
set_option maxRecDepth 100000
namespace Go.Proofs.YthbdjmopolpjmaaGreatDoor.C
open Go.RowKit Go.Proofs.YthbdjmopolpjmaaGreatDoorW.PrintWords Go.Proofs.YthbdjmopolpjmaaGreatDoorW.PrintLast Go.Proofs.YthbdjmopolpjmaaGreatDoorW.PrintMore Go.Proofs.YthbdjmopolpjmaaGreatDoor.F Go.Proofs.YthbdjmopolpjmaaGreatDoor.M
attribute [local go_sem] max2_int min2_int max_two min_two max_three min_three max_four min_four
theorem Ry {n:Int}(h:n=0):yH n= .nilIface:=if_pos h
theorem Vs {n:Int}(h:¬n=0):yH n= .iface 83 (.agg #[.int .i64 n]):=if_neg h
noncomputable def O1 (l:List iU):Value:= .tuple #[.string (prt l).1,.int .i64 (prt l).2.1,.int .i64 (prt l).2.2]
theorem eleven {W:World}{b:Nat}{v0 v1 v2 v3 v4 v5 v6 v7 v8 v9 v10:Value}(h:W.heap[b]?=some (.cells #[v0,v1,v2,v3,v4,v5,v6,v7,v8,v9,v10] 41 (0,0))):
  W.cell? ⟨b,0,none⟩=some v0∧W.cell? ⟨b,1,none⟩=some v1∧W.cell? ⟨b,2,none⟩=some v2∧W.cell? ⟨b,3,none⟩=some v3∧W.cell? ⟨b,4,none⟩=some v4∧W.cell? ⟨b,5,none⟩=some v5∧W.cell? ⟨b,6,none⟩=some v6∧W.cell? ⟨b,7,none⟩=some v7∧W.cell? ⟨b,8,none⟩=some v8∧W.cell? ⟨b,9,none⟩=some v9∧W.cell? ⟨b,10,none⟩=some v10:=
 ⟨(aj h 0).trans rfl,(aj h 1).trans rfl,(aj h 2).trans rfl,(aj h 3).trans rfl,(aj h 4).trans rfl,(aj h 5).trans rfl,(aj h 6).trans rfl,(aj h 7).trans rfl,(aj h 8).trans rfl,(aj h 9).trans rfl,(aj h 10).trans rfl⟩
def Yg (b:Bool):ByteArray:=⟨(if b then #[120]else #[43])⟩
theorem RD (x:iU)(A:Option Addr)(c:Nat)(w:World)(hf:Fits x)(hp:Pow w):Calls Tryz.prog 49 #[EV x A c] w fun e w'=>e= .returned (.string (Yg x.f8))∧Below w.heap.size w w':=VM x A c w hf hp
theorem Pq {l:List iU}{i:Int}(h0:0≤i)(h1:i<l.length):aX l i∈l:=by
 obtain⟨j,rfl⟩:∃j:Nat,i=(j:Int):=⟨i.toNat,by omega⟩;rw[xU (by omega)];exact List.getElem_mem _
theorem DF (A:Option Addr)(c:Nat)(l:List iU)(w:World)(hC:Kd.C EP w A l.length l)(hc:l.length≤c)(hl:l.length≤1048576)(hs:∀x∈l,Small x)(hg:BI w)(hp:Pow w):
  Calls Tryz.prog 8 #[.slice A l.length c] w fun e w'=>e= .returned (O1 l)∧Below w.heap.size w w':=by
 have HC:=zM (zA hC (zA hc (zA hl hs)));have HG:=zM (zA hg hp);have hlm:=eq_true (show l.length≤9223372036854775807 by omega);clear hC hc hl hs hg hp;go_enter Tryz.func8,Tryz.ntmps8;go_wp2_with fail;go_loopg [20] l.length (fun kq v20 W=>∃i:Int,v20= .int .i64 i∧Aside0 (0≤i∧i≤l.length∧l.length≤i+kq∧(∀j:Nat,(j:Int)<i→iK (aX l (j:Int))=0)∧Below w.heap.size w W))
 case atStart=>exact⟨0,rfl,⟨by omega,by omega,by omega,fun j hj=>by omega,Below.refl _ _⟩⟩
 case round=>
  obtain⟨i,rfl,HJ⟩:=hrel;have lV:=zM HJ.out.2.2.2.2
  by_cases hi:i<l.length
  ·have p0:=HJ.out.1;have q0:=hi;obtain⟨ad,A8,c8,e,hx0,hx1,hx2,hx3,hx4,hx5,hx6,hx7,ZV,hx9,tX,hl8,hi8⟩:=Il HC.out.1 i p0 q0;cases e;replace hx0:=aI lV.out hx0;replace hx1:=aI lV.out hx1;replace hx2:=aI lV.out hx2;replace hx3:=aI lV.out hx3;replace hx4:=aI lV.out hx4;replace hx5:=aI lV.out hx5;replace hx6:=aI lV.out hx6;replace hx7:=aI lV.out hx7;replace ZV:=aI lV.out ZV;replace hx9:=aI lV.out hx9;replace tX:=aI lV.out tX;have HI:=zM hi;clear hi hl8 hi8;have hd:=decide_eq_true q0;replace p0:=eq_true p0;replace q0:=eq_true q0;go_wp2_with fail;refine(Kz (aX l i) A8 c8 _).mono ?_;rintro e w1 ⟨rfl,hb⟩;have HB1:=zM (ah (ah lV.out lV.out.size (ag (Below.refl _ _) _)) (by have:=lV.out.size;simp;omega) hb);clear hb hx0 hx1 hx2 hx3 hx4 hx5 hx6 hx7 ZV hx9 tX
   by_cases hcan:iK (aX l i)=0
   ·rw[Ry hcan];have YH:=zM hcan;clear hcan;obtain⟨k1,rfl⟩:∃k1,gk=k1+1:=⟨gk- 1,by have:=HJ.out.2.2.1;have:=HI.out;omega⟩;go_wp2_with fail;go_roundg k1
    case measure=>omega
    case rel=>
     have:=HI.out;have:=HC.out.2.2.1;have:=HJ.out.1;refine⟨i+1,congrArg (Value.int .i64) (fD (by omega) (by omega)),⟨by omega,by omega,by have:=HJ.out.2.2.1;omega,fun j hj=>?_,HB1.out⟩⟩
     by_cases hji:(j:Int)=i
     ·rw[hji];exact YH.out
     ·exact HJ.out.2.2.2.1 j (by omega)
   ·rw[Vs hcan];have YH:=zM hcan;clear hcan;go_wp2_with fail;refine(G6 (iK (aX l i)) i _ (HG.out.1.below HB1.out)).mono ?_;rintro e w2 ⟨rfl,hb⟩;have HB2:=zM (ah HB1.out HB1.out.size hb);clear hb;go_wp2_with fail;go_ret3;refine⟨?_,HB2.out⟩;obtain⟨j,rfl⟩:∃j:Nat,i=(j:Int):=⟨i.toNat,by have:=HJ.out.1;omega⟩;unfold O1;rw[aaf (j:=j) (by have:=HI.out;omega) (fun k hk=>HJ.out.2.2.2.1 k (by omega)) YH.out];rfl
  ·have hd:=zF hi;have he:i=l.length:=by have:=HJ.out.2.1;omega
   have JD:=zM (show∀k:Nat,k<l.length→iK (aX l (k:Int))=0 from fun k hk=>HJ.out.2.2.2.1 k (by omega));clear hi he
   by_cases hm:4096<l.length
   ·have hm1:=zT hm;have hm2:decide ((4096:Int)<(l.length:Int))=true:=decide_eq_true (by omega);have HM:=zM hm;clear hm;go_wp2_with fail;go_ret3;refine⟨?_,lV.out⟩;unfold O1;rw[XW JD.out HM.out];rfl
   ·have hm1:=zF hm;have hm2:decide ((4096:Int)<(l.length:Int))=false:=decide_eq_false (by omega);have Hy:=zM hm;clear hm HJ;obtain⟨wa,hwa⟩:∃wa,wa=wr:=⟨_,rfl⟩;subst hwa;go_wp2_with fail;go_loopg [10,45] l.length (fun kq v10 v45 W=>∃i:Int,v45= .int .i64 i∧Aside0 (0≤i∧i≤l.length∧l.length≤i+kq∧Rb W w.heap.size v10 (lines (l.take i.toNat))∧(lines (l.take i.toNat)).length≤65536∧Below w.heap.size w W))
    case atStart=>exact⟨0,rfl,⟨by omega,by omega,by omega,Kd.jB _ _ _ _ _,by simp[lines],lV.out⟩⟩
    case round=>
     clear lV;obtain⟨i,rfl,HJ⟩:=hrel;have lV:=zM HJ.out.2.2.2.2.2
     by_cases hi:i<l.length
     ·have p0:=HJ.out.1;have q0:=hi;obtain⟨ad,A8,c8,e,hx0,hx1,hx2,hx3,hx4,hx5,hx6,hx7,ZV,hx9,tX,hl8,hi8⟩:=Il HC.out.1 i p0 q0;cases e;replace hx0:=aI lV.out hx0;replace hx1:=aI lV.out hx1;replace hx2:=aI lV.out hx2;replace hx3:=aI lV.out hx3;replace hx4:=aI lV.out hx4;replace hx5:=aI lV.out hx5;replace hx6:=aI lV.out hx6;replace hx7:=aI lV.out hx7;replace ZV:=aI lV.out ZV;replace hx9:=aI lV.out hx9;replace tX:=aI lV.out tX;have HI:=zM (zA hi (zA hl8 hi8));clear hi hl8 hi8;have hd:=decide_eq_true q0;replace p0:=eq_true p0;replace q0:=eq_true q0;obtain⟨k1,rfl⟩:∃k1,gk=k1+1:=⟨gk- 1,by have:=HJ.out.2.2.1;have:=HI.out.1;omega⟩;go_wp2_with fail;refine(Js _).mono ?_;rintro e w2 ⟨rfl,hw⟩;obtain⟨eb,heb⟩:∃eb,wr.heap.size=eb:=⟨_,rfl⟩;have hBe:Below wr.heap.size wr w2:=by rw[←hw];exact ag (ag (Below.refl _ _) _) _
      have hfb:w2.heap[eb+1]?=some (.cells fns 53 (0,0)):=by
       rw[←hw,←heb];have:=bZ (wr.alloc (.cells #[.int .i64 (aX l i).f0,.string (aX l i).f1,.string (aX l i).f2.f0,.string (aX l i).f2.f1,.string (aX l i).f3.f0,.string (aX l i).f3.f1,.string (aX l i).f4,.int .i64 (aX l i).f5,.slice A8 (aX l i).f6.length c8,.int .i64 (aX l i).f7,.bool (aX l i).f8] 41)) (.cells fns 53);simpa using this
      have hee:w2.heap[eb]?=some (.cells #[.int .i64 (aX l i).f0,.string (aX l i).f1,.string (aX l i).f2.f0,.string (aX l i).f2.f1,.string (aX l i).f3.f0,.string (aX l i).f3.f1,.string (aX l i).f4,.int .i64 (aX l i).f5,.slice A8 (aX l i).f6.length c8,.int .i64 (aX l i).f7,.bool (aX l i).f8] 41 (0,0)):=by
       rw[←hw,←heb];exact fZ (bZ wr _) _
      have HE:=zM (zA hfb hee);have HB2:=zM (ah lV.out lV.out.size hBe);have ak4:=zM (Kd.dK HJ.out.2.2.2.1 hBe);have hsz2:(wr.alloc (.cells #[.int .i64 (aX l i).f0,.string (aX l i).f1,.string (aX l i).f2.f0,.string (aX l i).f2.f1,.string (aX l i).f3.f0,.string (aX l i).f3.f1,.string (aX l i).f4,.int .i64 (aX l i).f5,.slice A8 (aX l i).f6.length c8,.int .i64 (aX l i).f7,.bool (aX l i).f8] 41)).heap.size=eb+1:=by rw[←heb];simp
      rw[hsz2];rw[heb];have HX:=zM (zA (HC.out.2.2.2 _ (Pq HJ.out.1 HI.out.1)) (show iK (aX l i)=0 from by have h0:=HJ.out.1;have h1:=JD.out i.toNat (by have:=HI.out.1;omega);rwa [Int.toNat_of_nonneg h0]at h1));clear hw hfb hee hBe hsz2 hx0 hx1 hx2 hx3 hx4 hx5 hx6 hx7 ZV hx9 tX;go_wp2_with fail;go_loopg [13,51] 8 (fun kq v13 v51 W=>∃k:Nat,v51= .int .i64 (k:Int)∧Aside0 (k≤8∧8≤k+kq∧Kd.string.R 9 W w2.heap.size (fun _=>True) v13 ((eight (aX l i)).take k)∧Below w2.heap.size w2 W))
      case atStart=>exact⟨0,rfl,⟨by omega,by omega,Kd.jB _ _ _ _ _,Below.refl _ _⟩⟩
      case round=>
       obtain⟨k,rfl,HK⟩:=hrel;have HBk:=zM (ah HB2.out HB2.out.size HK.out.2.2.2);obtain⟨vk,vw,vz,vC,vF,vG,vH,Bh,Bi,Bj,nR⟩:=eleven (aT HE.out.2 HK.out.2.2.2);have hfk:=aT HE.out.1 HK.out.2.2.2;rcases(show k=0∨k=1∨k=2∨k=3∨k=4∨k=5∨k=6∨k=7∨k=8 from by have:=HK.out.1;omega)with rfl|rfl|rfl|rfl|rfl|rfl|rfl|rfl|rfl
       ·have cf:wr.cell? ⟨eb+1,0,none⟩=some (.func (.func 46) #[] #[]):=(aj hfk 0).trans rfl;clear hfk;obtain⟨wP,rfl⟩:∃k1,gk=k1+1:=⟨gk- 1,by have:=HK.out.2.1;omega⟩;go_wp2_with fail;refine(VJ (aX l i) A8 c8 _ (HX.out.1.fits HX.out.2) (HG.out.2.below HBk.out)).mono ?_;rintro e w3 ⟨rfl,hb⟩;have HRk:=zM (Kd.dK HK.out.2.2.1 hb);have AU:=zM (ah HK.out.2.2.2 HK.out.2.2.2.size hb);clear hb vk vw vz vC vF vG vH Bh Bi Bj nR cf;go_wp2_with (first|((with_reducible refine bK (b:= .append) (xs:= #[.tmp 55,.tmp 60]) rfl ?_);at_builtin;refine Kd.dZ Kd.string (w0:=w2) w2.heap.size rfl (.tmp 55) (.tmp 60) 30 9 (.string ⟨#[]⟩) 16 rfl Tryz.underlying30 info9 rfl (by decide) (by omega) u13 ((eight (aX l i)).take 0) (⟨(Lib.itoa (aX l i).f0).toArray⟩:ByteArray) [.string (⟨(Lib.itoa (aX l i).f0).toArray⟩:ByteArray)] (fun _=>True) (fun _=>False) rfl rfl ?aP (fun _ hk=>hk.elim) ?aF ?aO ?aB ?aS ?aL ?_;(case aP=>exact rfl);(case aF=>exact(fun _ _=>trivial));(case aO=>exact HRk.out);(case aB=>exact AU.out);(case aS=>exact AU.out.size);(case aL=>(have:=List.length_take_le 0 (eight (aX l i));omega));intro v1 w4 ho hb hg hat;have HN:=zM (zA ho hb);clear ho hb hg hat));go_roundg wP
        case measure=>omega
        case rel=>exact⟨1,by go_num,⟨by omega,by have:=HK.out.2.1;omega,HN.out.1,HN.out.2⟩⟩
       ·have cf:wr.cell? ⟨eb+1,1,none⟩=some (.func (.func 47) #[] #[]):=(aj hfk 1).trans rfl;clear hfk;obtain⟨wP,rfl⟩:∃k1,gk=k1+1:=⟨gk- 1,by have:=HK.out.2.1;omega⟩;go_wp2_with fail;refine(VK (aX l i) A8 c8 _ (HX.out.1.fits HX.out.2) (HG.out.2.below HBk.out)).mono ?_;rintro e w3 ⟨rfl,hb⟩;have HRk:=zM (Kd.dK HK.out.2.2.1 hb);have AU:=zM (ah HK.out.2.2.2 HK.out.2.2.2.size hb);clear hb vk vw vz vC vF vG vH Bh Bi Bj nR cf;go_wp2_with (first|((with_reducible refine bK (b:= .append) (xs:= #[.tmp 55,.tmp 60]) rfl ?_);at_builtin;refine Kd.dZ Kd.string (w0:=w2) w2.heap.size rfl (.tmp 55) (.tmp 60) 30 9 (.string ⟨#[]⟩) 16 rfl Tryz.underlying30 info9 rfl (by decide) (by omega) u13 ((eight (aX l i)).take 1) (⟨(Lib.itoa (aX l i).f7).toArray⟩:ByteArray) [.string (⟨(Lib.itoa (aX l i).f7).toArray⟩:ByteArray)] (fun _=>True) (fun _=>False) rfl rfl ?aP (fun _ hk=>hk.elim) ?aF ?aO ?aB ?aS ?aL ?_;(case aP=>exact rfl);(case aF=>exact(fun _ _=>trivial));(case aO=>exact HRk.out);(case aB=>exact AU.out);(case aS=>exact AU.out.size);(case aL=>(have:=List.length_take_le 1 (eight (aX l i));omega));intro v1 w4 ho hb hg hat;have HN:=zM (zA ho hb);clear ho hb hg hat));go_roundg wP
        case measure=>omega
        case rel=>exact⟨2,by go_num,⟨by omega,by have:=HK.out.2.1;omega,HN.out.1,HN.out.2⟩⟩
       ·have cf:wr.cell? ⟨eb+1,2,none⟩=some (.func (.func 48) #[] #[]):=(aj hfk 2).trans rfl;clear hfk;obtain⟨wP,rfl⟩:∃k1,gk=k1+1:=⟨gk- 1,by have:=HK.out.2.1;omega⟩;go_wp2_with fail;refine(VL (aX l i) A8 c8 _ (HX.out.1.fits HX.out.2) (HG.out.2.below HBk.out)).mono ?_;rintro e w3 ⟨rfl,hb⟩;have HRk:=zM (Kd.dK HK.out.2.2.1 hb);have AU:=zM (ah HK.out.2.2.2 HK.out.2.2.2.size hb);clear hb vk vw vz vC vF vG vH Bh Bi Bj nR cf;go_wp2_with (first|((with_reducible refine bK (b:= .append) (xs:= #[.tmp 55,.tmp 60]) rfl ?_);at_builtin;refine Kd.dZ Kd.string (w0:=w2) w2.heap.size rfl (.tmp 55) (.tmp 60) 30 9 (.string ⟨#[]⟩) 16 rfl Tryz.underlying30 info9 rfl (by decide) (by omega) u13 ((eight (aX l i)).take 2) (⟨(Lib.itoa (aX l i).f5).toArray⟩:ByteArray) [.string (⟨(Lib.itoa (aX l i).f5).toArray⟩:ByteArray)] (fun _=>True) (fun _=>False) rfl rfl ?aP (fun _ hk=>hk.elim) ?aF ?aO ?aB ?aS ?aL ?_;(case aP=>exact rfl);(case aF=>exact(fun _ _=>trivial));(case aO=>exact HRk.out);(case aB=>exact AU.out);(case aS=>exact AU.out.size);(case aL=>(have:=List.length_take_le 2 (eight (aX l i));omega));intro v1 w4 ho hb hg hat;have HN:=zM (zA ho hb);clear ho hb hg hat));go_roundg wP
        case measure=>omega
        case rel=>exact⟨3,by go_num,⟨by omega,by have:=HK.out.2.1;omega,HN.out.1,HN.out.2⟩⟩
       ·have cf:wr.cell? ⟨eb+1,3,none⟩=some (.func (.func 49) #[] #[]):=(aj hfk 3).trans rfl;clear hfk;obtain⟨wP,rfl⟩:∃k1,gk=k1+1:=⟨gk- 1,by have:=HK.out.2.1;omega⟩;go_wp2_with fail;refine(RD (aX l i) A8 c8 _ (HX.out.1.fits HX.out.2) (HG.out.2.below HBk.out)).mono ?_;rintro e w3 ⟨rfl,hb⟩;have HRk:=zM (Kd.dK HK.out.2.2.1 hb);have AU:=zM (ah HK.out.2.2.2 HK.out.2.2.2.size hb);clear hb vk vw vz vC vF vG vH Bh Bi Bj nR cf;go_wp2_with (first|((with_reducible refine bK (b:= .append) (xs:= #[.tmp 55,.tmp 60]) rfl ?_);at_builtin;refine Kd.dZ Kd.string (w0:=w2) w2.heap.size rfl (.tmp 55) (.tmp 60) 30 9 (.string ⟨#[]⟩) 16 rfl Tryz.underlying30 info9 rfl (by decide) (by omega) u13 ((eight (aX l i)).take 3) (Yg (aX l i).f8:ByteArray) [.string (Yg (aX l i).f8:ByteArray)] (fun _=>True) (fun _=>False) rfl rfl ?aP (fun _ hk=>hk.elim) ?aF ?aO ?aB ?aS ?aL ?_;(case aP=>exact rfl);(case aF=>exact(fun _ _=>trivial));(case aO=>exact HRk.out);(case aB=>exact AU.out);(case aS=>exact AU.out.size);(case aL=>(have:=List.length_take_le 3 (eight (aX l i));omega));intro v1 w4 ho hb hg hat;have HN:=zM (zA ho hb);clear ho hb hg hat));go_roundg wP
        case measure=>omega
        case rel=>exact⟨4,by go_num,⟨by omega,by have:=HK.out.2.1;omega,HN.out.1,HN.out.2⟩⟩
       ·have cf:wr.cell? ⟨eb+1,4,none⟩=some (.func (.func 50) #[] #[]):=(aj hfk 4).trans rfl;clear hfk;obtain⟨wP,rfl⟩:∃k1,gk=k1+1:=⟨gk- 1,by have:=HK.out.2.1;omega⟩;go_wp2_with fail;refine(VN (aX l i) A8 c8 _ (HX.out.1.fits HX.out.2) (HG.out.2.below HBk.out)).mono ?_;rintro e w3 ⟨rfl,hb⟩;have HRk:=zM (Kd.dK HK.out.2.2.1 hb);have AU:=zM (ah HK.out.2.2.2 HK.out.2.2.2.size hb);clear hb vk vw vz vC vF vG vH Bh Bi Bj nR cf;go_wp2_with (first|((with_reducible refine bK (b:= .append) (xs:= #[.tmp 55,.tmp 60]) rfl ?_);at_builtin;refine Kd.dZ Kd.string (w0:=w2) w2.heap.size rfl (.tmp 55) (.tmp 60) 30 9 (.string ⟨#[]⟩) 16 rfl Tryz.underlying30 info9 rfl (by decide) (by omega) u13 ((eight (aX l i)).take 4) ((esc (aX l i).f1):ByteArray) [.string ((esc (aX l i).f1):ByteArray)] (fun _=>True) (fun _=>False) rfl rfl ?aP (fun _ hk=>hk.elim) ?aF ?aO ?aB ?aS ?aL ?_;(case aP=>exact rfl);(case aF=>exact(fun _ _=>trivial));(case aO=>exact HRk.out);(case aB=>exact AU.out);(case aS=>exact AU.out.size);(case aL=>(have:=List.length_take_le 4 (eight (aX l i));omega));intro v1 w4 ho hb hg hat;have HN:=zM (zA ho hb);clear ho hb hg hat));go_roundg wP
        case measure=>omega
        case rel=>exact⟨5,by go_num,⟨by omega,by have:=HK.out.2.1;omega,HN.out.1,HN.out.2⟩⟩
       ·have cf:wr.cell? ⟨eb+1,5,none⟩=some (.func (.func 51) #[] #[]):=(aj hfk 5).trans rfl;clear hfk;obtain⟨wP,rfl⟩:∃k1,gk=k1+1:=⟨gk- 1,by have:=HK.out.2.1;omega⟩;go_wp2_with fail;refine(VO (aX l i) A8 c8 _ (HX.out.1.fits HX.out.2) (HG.out.2.below HBk.out)).mono ?_;rintro e w3 ⟨rfl,hb⟩;have HRk:=zM (Kd.dK HK.out.2.2.1 hb);have AU:=zM (ah HK.out.2.2.2 HK.out.2.2.2.size hb);clear hb vk vw vz vC vF vG vH Bh Bi Bj nR cf;go_wp2_with (first|((with_reducible refine bK (b:= .append) (xs:= #[.tmp 55,.tmp 60]) rfl ?_);at_builtin;refine Kd.dZ Kd.string (w0:=w2) w2.heap.size rfl (.tmp 55) (.tmp 60) 30 9 (.string ⟨#[]⟩) 16 rfl Tryz.underlying30 info9 rfl (by decide) (by omega) u13 ((eight (aX l i)).take 5) ((mf (aX l i).f2.f0 (aX l i).f2.f1):ByteArray) [.string ((mf (aX l i).f2.f0 (aX l i).f2.f1):ByteArray)] (fun _=>True) (fun _=>False) rfl rfl ?aP (fun _ hk=>hk.elim) ?aF ?aO ?aB ?aS ?aL ?_;(case aP=>exact rfl);(case aF=>exact(fun _ _=>trivial));(case aO=>exact HRk.out);(case aB=>exact AU.out);(case aS=>exact AU.out.size);(case aL=>(have:=List.length_take_le 5 (eight (aX l i));omega));intro v1 w4 ho hb hg hat;have HN:=zM (zA ho hb);clear ho hb hg hat));go_roundg wP
        case measure=>omega
        case rel=>exact⟨6,by go_num,⟨by omega,by have:=HK.out.2.1;omega,HN.out.1,HN.out.2⟩⟩
       ·have cf:wr.cell? ⟨eb+1,6,none⟩=some (.func (.func 52) #[] #[]):=(aj hfk 6).trans rfl;clear hfk;obtain⟨wP,rfl⟩:∃k1,gk=k1+1:=⟨gk- 1,by have:=HK.out.2.1;omega⟩;go_wp2_with fail;refine(VP (aX l i) A8 c8 _ (HX.out.1.fits HX.out.2) (HG.out.2.below HBk.out)).mono ?_;rintro e w3 ⟨rfl,hb⟩;have HRk:=zM (Kd.dK HK.out.2.2.1 hb);have AU:=zM (ah HK.out.2.2.2 HK.out.2.2.2.size hb);clear hb vk vw vz vC vF vG vH Bh Bi Bj nR cf;go_wp2_with (first|((with_reducible refine bK (b:= .append) (xs:= #[.tmp 55,.tmp 60]) rfl ?_);at_builtin;refine Kd.dZ Kd.string (w0:=w2) w2.heap.size rfl (.tmp 55) (.tmp 60) 30 9 (.string ⟨#[]⟩) 16 rfl Tryz.underlying30 info9 rfl (by decide) (by omega) u13 ((eight (aX l i)).take 6) ((mf (aX l i).f3.f0 (aX l i).f3.f1):ByteArray) [.string ((mf (aX l i).f3.f0 (aX l i).f3.f1):ByteArray)] (fun _=>True) (fun _=>False) rfl rfl ?aP (fun _ hk=>hk.elim) ?aF ?aO ?aB ?aS ?aL ?_;(case aP=>exact rfl);(case aF=>exact(fun _ _=>trivial));(case aO=>exact HRk.out);(case aB=>exact AU.out);(case aS=>exact AU.out.size);(case aL=>(have:=List.length_take_le 6 (eight (aX l i));omega));intro v1 w4 ho hb hg hat;have HN:=zM (zA ho hb);clear ho hb hg hat));go_roundg wP
        case measure=>omega
        case rel=>exact⟨7,by go_num,⟨by omega,by have:=HK.out.2.1;omega,HN.out.1,HN.out.2⟩⟩
       ·have cf:wr.cell? ⟨eb+1,7,none⟩=some (.func (.func 53) #[] #[]):=(aj hfk 7).trans rfl;clear hfk;obtain⟨wP,rfl⟩:∃k1,gk=k1+1:=⟨gk- 1,by have:=HK.out.2.1;omega⟩;go_wp2_with fail;refine(VQ (aX l i) A8 c8 _ (HX.out.1.fits HX.out.2) (HG.out.2.below HBk.out)).mono ?_;rintro e w3 ⟨rfl,hb⟩;have HRk:=zM (Kd.dK HK.out.2.2.1 hb);have AU:=zM (ah HK.out.2.2.2 HK.out.2.2.2.size hb);clear hb vk vw vz vC vF vG vH Bh Bi Bj nR cf;go_wp2_with (first|((with_reducible refine bK (b:= .append) (xs:= #[.tmp 55,.tmp 60]) rfl ?_);at_builtin;refine Kd.dZ Kd.string (w0:=w2) w2.heap.size rfl (.tmp 55) (.tmp 60) 30 9 (.string ⟨#[]⟩) 16 rfl Tryz.underlying30 info9 rfl (by decide) (by omega) u13 ((eight (aX l i)).take 7) ((esc (aX l i).f4):ByteArray) [.string ((esc (aX l i).f4):ByteArray)] (fun _=>True) (fun _=>False) rfl rfl ?aP (fun _ hk=>hk.elim) ?aF ?aO ?aB ?aS ?aL ?_;(case aP=>exact rfl);(case aF=>exact(fun _ _=>trivial));(case aO=>exact HRk.out);(case aB=>exact AU.out);(case aS=>exact AU.out.size);(case aL=>(have:=List.length_take_le 7 (eight (aX l i));omega));intro v1 w4 ho hb hg hat;have HN:=zM (zA ho hb);clear ho hb hg hat));go_roundg wP
        case measure=>omega
        case rel=>exact⟨8,by go_num,⟨by omega,by have:=HK.out.2.1;omega,HN.out.1,HN.out.2⟩⟩
       ·clear hfk;have alu:=Kd.ji HI.out.2.2 (ah HB2.out HB2.out.size HK.out.2.2.2);have HK8:=zM (zA (show Kd.string.R 9 wr w2.heap.size (fun _=>True) u13 (eight (aX l i))from HK.out.2.2.1) HK.out.2.2.2);clear alu;go_wp2_with fail;go_loopg [13,66] (aX l i).f6.length (fun kq v13 v66 W=>∃m:Int,v66= .int .i64 m∧Aside0 (0≤m∧m≤(aX l i).f6.length∧(aX l i).f6.length≤m+kq∧Kd.string.R 9 W w2.heap.size (fun _=>True) v13 (eight (aX l i)++((aX l i).f6.take m.toNat).map esc)∧Below w2.heap.size w2 W))
        case atStart=>exact⟨0,rfl,⟨by omega,by omega,by omega,by simpa using HK8.out.1,HK8.out.2⟩⟩
        case round=>
         obtain⟨m,rfl,HM⟩:=hrel;have HBm:=zM (ah HB2.out HB2.out.size HM.out.2.2.2.2);have ht8:=Jm HX.out.2;have HT8:=zM ht8;clear ht8
         by_cases hm:m<(aX l i).f6.length
         ·obtain⟨ad8,e8,htc⟩:=Kd.jI HI.out.2.2 m HM.out.1 hm;cases e8;replace htc:=aI HBm.out htc;obtain⟨tg,htg⟩:∃tg,jg ByteArray.empty (aX l i).f6 m=tg:=⟨_,rfl⟩
          have htm:tg∈(aX l i).f6∧(aX l i).f6.take (m.toNat+1)=(aX l i).f6.take m.toNat++[tg]:=by
           have hmn:m.toNat<(aX l i).f6.length:=by have:=HM.out.1;omega
           have e:tg=(aX l i).f6[m.toNat]:=by rw[←htg];simp[jg,hmn]
           rw[e];exact⟨List.getElem_mem _,List.take_succ_eq_append_getElem hmn⟩
          rw[htg]at htc;have p1:=eq_true HM.out.1;have q1:=eq_true hm;have hdm:=decide_eq_true hm;have HTG:=zM (zA hm htm);obtain⟨wP,rfl⟩:∃k1,gk=k1+1:=⟨gk- 1,by have:=HM.out.2.2.1;omega⟩;clear hm htm htg;go_wp2_with fail;refine(qR tg _ (by have:=HX.out.1.s6 tg HTG.out.2.1;omega)).mono ?_;rintro e w3 ⟨rfl,hb⟩;have HRk:=zM (Kd.dK HM.out.2.2.2.1 hb);have AU:=zM (ah HM.out.2.2.2.2 HM.out.2.2.2.2.size hb);clear hb htc;go_wp2_with (first|((with_reducible refine bK (b:= .append) (xs:= #[.tmp 70,.tmp 73]) rfl ?_);at_builtin;refine Kd.dZ Kd.string (w0:=w2) w2.heap.size rfl (.tmp 70) (.tmp 73) 30 9 (.string ⟨#[]⟩) 16 rfl Tryz.underlying30 info9 rfl (by decide) (by omega) u13 (eight (aX l i)++((aX l i).f6.take m.toNat).map esc) (esc tg) [.string (esc tg)] (fun _=>True) (fun _=>False) rfl rfl ?aP (fun _ hk=>hk.elim) ?aF ?aO ?aB ?aS ?aL ?_;(case aP=>exact rfl);(case aF=>exact(fun _ _=>trivial));(case aO=>exact HRk.out);(case aB=>exact AU.out);(case aS=>exact AU.out.size);(case aL=>(have h1:=List.length_take_le' m.toNat (aX l i).f6;have h2:=HT8.out;have h3:(eight (aX l i)).length=8:=rfl;rw[List.length_append,List.length_map,h3];omega));intro v1 w4 ho hb hg hat;have HN:=zM (zA ho hb);clear ho hb hg hat));go_roundg wP
          case measure=>omega
          case rel=>
           have hm:=HTG.out.1;have ht:=HT8.out;have h0:=HM.out.1;refine⟨m+1,congrArg (Value.int .i64) (fD (by omega) (by omega)),⟨by omega,by omega,by have:=HM.out.2.2.1;omega,?_,HN.out.2⟩⟩;have e:(m+1).toNat=m.toNat+1:=by omega
           rw[e,HTG.out.2.2,List.map_append,←List.append_assoc];exact HN.out.1
         ·have hdm:=zF hm;have he:m.toNat=(aX l i).f6.length:=by have:=HM.out.2.1;have:=HM.out.1;omega
          have hR:=HM.out.2.2.2.1;rw[he,List.take_length]at hR;have HR:=zM (show Kd.string.R 9 wr w2.heap.size (fun _=>True) u13 (parts (aX l i))from hR);have HBo:=zM (Kd.dK ak4.out HM.out.2.2.2.2);clear hm he hR;go_wp2_with fail;refine(KU u13 (parts (aX l i)) w2.heap.size (fun _=>True) _ HR.out (XR _) (by have:=(GL HX.out.2).1;omega) (by have:=Ef HX.out.1 HX.out.2;omega)).mono ?_;rintro e w3 ⟨rfl,hb⟩;have HOo:=zM (Kd.jd (Kd.dK HBo.out hb));have HB3:=zM (ah HBm.out HBm.out.size hb);have HLn:=zM (show(jn (parts (aX l i))).size≤33554448 by rw[←bytesOf_length,xq];exact Ef HX.out.1 HX.out.2);clear hb;go_upto_region 28 with(first|((with_reducible refine bK (b:= .append) (xs:= #[.tmp 76,.tmp 78]) rfl ?_);at_builtin;refine Ad (w0:=w) w.heap.size rfl (.tmp 76) (.tmp 78) 50 9 5 rfl Tryz.underlying50 Tryz.underlying9 info5 u10 (lines (l.take i.toNat)) (jn (parts (aX l i))) rfl rfl ?aO ?aB ?aS ?aL ?_;(case aO=>exact HOo.out);(case aB=>exact HB3.out);(case aS=>exact HB3.out.size);(case aL=>(have:=HJ.out.2.2.2.2.1;have:=HLn.out;omega));intro v1 w4 ho hb hg;rw[xq]at ho;have HN:=zM (zA (show Rb w4 w.heap.size v1 (lines (l.take i.toNat)++RY (parts (aX l i)))from Kd.iR ho (fun k hk=>own_base ho k hk)) hb);clear ho hb hg)|((with_reducible refine bK (b:= .append) (xs:= #[.tmp 80,.tmp 81]) rfl ?_);at_builtin;refine Kd.dZ (Kd.int .u8) (w0:=w) w.heap.size rfl (.tmp 80) (.tmp 81) 50 5 (.int .u8 0) 1 rfl Tryz.underlying50 info5 rfl (by decide) (by omega) v1 (lines (l.take i.toNat)++RY (parts (aX l i))) 10 [.int .u8 10] (fun k=>w.heap.size≤k) (fun _=>False) rfl rfl ?aP (fun _ hk=>hk.elim) ?aF ?aO ?aB ?aS ?aL ?_;(case aP=>exact rfl);(case aF=>exact(fun k hk=>Nat.le_trans HN.out.2.size hk));(case aO=>exact HN.out.1);(case aB=>exact HN.out.2);(case aS=>exact HN.out.2.size);(case aL=>(have:=HJ.out.2.2.2.2.1;have:=Ef HX.out.1 HX.out.2;rw[List.length_append];omega));intro v2 w5 ho hb hg hat;obtain⟨A2,c2,hv,_,_⟩:=Kd.jE ho;obtain⟨N5,hN5⟩:∃N,(lines (l.take i.toNat)++RY (parts (aX l i))++[10]).length=N:=⟨_,rfl⟩;rw[hN5]at hv;subst hv;have HN2:=zM (zA ho (zA hb hN5));clear ho hb hg hat hN5 HN))
          have abl:lines (l.take i.toNat)++RY (parts (aX l i))++[10]=lines (l.take (i.toNat+1)):=by
           have h0:=HJ.out.1;have h1:=HI.out.1;rw[Oz l i.toNat (by omega),←xU (by omega),Int.toNat_of_nonneg h0,List.append_assoc];rfl
          have HL:=zM abl;clear abl
          by_cases h5:65536<N5
          ·have h51:=zT h5;have h52:decide ((65536:Int)<(N5:Int))=true:=decide_eq_true (by omega);have H5:=zM h5;clear h5;go_wp2_with fail;go_ret3;refine⟨?_,HN2.out.2.1⟩;unfold O1;rw[XV JD.out Hy.out (i.toNat+1) (by have h6:=HN2.out.2.2;rw[HL.out]at h6;rw[h6];exact H5.out)];rfl
          ·have h51:=zF h5;have h52:decide ((65536:Int)<(N5:Int))=false:=decide_eq_false (by omega);have H5:=zM h5;clear h5;go_wp2_with fail;go_roundg k1
           case measure=>omega
           case rel=>
            have h0:=HJ.out.1;have h1:=HI.out.1;have h2:=HC.out.2.2.1;have e:(i+1).toNat=i.toNat+1:=by omega
            have h6:=HN2.out.2.2;have h7:=HN2.out.1;rw[HL.out]at h6 h7;refine⟨i+1,congrArg (Value.int .i64) (fD (by omega) (by omega)),⟨by omega,by omega,by have:=HJ.out.2.2.1;omega,?_,?_,HN2.out.2.1⟩⟩
            ·rw[e,←h6];rw[←h6]at h7;exact h7
            ·rw[e,h6];have:=H5.out;omega
     ·have hd:=zF hi;have he:i.toNat=l.length:=by have:=HJ.out.2.1;have:=HJ.out.1;omega
      have hO:=HJ.out.2.2.2.1;have hO2:=HJ.out.2.2.2.2.1;rw[he,List.take_length]at hO hO2;obtain⟨A2,c2,hv,_,hC2⟩:=Kd.jE hO;subst hv;have hcv:=Kd.yj (P:=Tryz.prog) (c:=c2) (src:=50) (dst:=9) (e:=5) Tryz.underlying50 Tryz.underlying5 Tryz.underlying9 hC2;obtain⟨N6,hN6⟩:∃N,(lines l).length=N:=⟨_,rfl⟩;rw[hN6]at hcv;rw[hN6];have HO:=zM hO2;clear hi he hO hO2 hC2 hN6;go_wp2_with fail;go_ret3;refine⟨?_,lV.out⟩;unfold O1;rw[XX JD.out Hy.out (by have:=HO.out;omega)];rfl
theorem Rx {ps:List Int}{x y:Int}{qs:List Int}(wp:Wd ps)(h:QX x y ps qs)(hy:0<y):(!ps.isEmpty)=decide (x≠0):=by
 have hg:=qy (a:=x) hy;cases ps with
 |nil=>
  have h1:=h.1;rw[show val 4294967296 []=0 from rfl,Int.zero_mul]at h1;rw[←h1];rfl
 |cons a l=>
  have h2:=uQ (B:=4294967296) (by omega) wp.1 wp.2.1 (by simp);have h3:(0:Int)<4294967296^((a::l).length- 1):=Int.pow_pos (by omega);have h4:0<x:=by rw[←h.1];exact Int.mul_pos (by omega) hg
  rw[decide_eq_true (by omega)];rfl
theorem F7 (qs:List Int):iH (iH qs)=iH qs:=by
 have:iH qs≠[]:=by unfold iH;split<;>simp_all
 rw[show iH (iH qs)=iH qs from if_neg this]
theorem dW {xs:List Int}(h:Wd xs):0≤val 4294967296 xs:=by
 cases hx:xs with
 |nil=>exact Int.le_refl _
 |cons a l=>
  rw[←hx];have h2:=uQ (B:=4294967296) (by omega) h.1 h.2.1 (by rw[hx];simp);exact Int.le_trans (Int.le_of_lt (Int.pow_pos (by omega))) h2
def Dt (s:ByteArray)(f:Fm)(g:Nat)(w wc:World)(r:Nat)(ps qs:List Int)(x y:Int):Prop:=
 kU wc r false ps qs∧Wd ps∧Wd qs∧QX x y ps (iH qs)∧FC f x y∧ps.length≤100000∧(iH qs).length≤100000∧0<y∧wc.heap[w.heap.size]?=some (.cells #[.string ⟨#[]⟩,.string ⟨#[]⟩] 39 (0,0))∧Below w.heap.size w wc∧w.heap.size<r∧(∃i bad,qg wc g s i bad f)
theorem Fa (s:ByteArray)(w:World):
  Calls Tryz.prog 108 #[.string s] w fun e w'=>∃n d er pos,e= .returned (.tuple #[.agg #[.string n,.string d],.int .i64 er,.int .i64 pos])∧qZ s n d er∧Below w.heap.size w w':=by
 have hb0:Below w.heap.size w (w.alloc (.cells #[.string ⟨#[]⟩,.string ⟨#[]⟩] 39)):=ag (Below.refl _ _) _;have H0:=zM (zA hb0 (bZ w (.cells #[.string ⟨#[]⟩,.string ⟨#[]⟩] 39)));clear hb0
 by_cases hbig:65536<s.size
 ·have q1:decide (65536<(s.size:Int))=true:=decide_eq_true (by omega);have q2:=zT hbig;have HQ:=zM hbig;clear hbig;go_enter Tryz.func108,Tryz.ntmps108;go_wp2_with fail;refine bodyPost_ret (eY rfl _ _ w.heap.size 39 #[.string ⟨#[]⟩,.string ⟨#[]⟩] (0,0) _ rfl (by exact H0.out.2) Tryz.underlying39 rfl (by kernel_rfl)) rfl ?_;exact⟨⟨#[]⟩,⟨#[]⟩,4,_,rfl,.inl ⟨HQ.out,rfl,rfl,rfl⟩,H0.out.1⟩
 ·have q1:decide (65536<(s.size:Int))=false:=decide_eq_false (by omega);have q2:=zF hbig;have HQ:=zM (show s.size≤65536 by omega);clear hbig;go_enter Tryz.func108,Tryz.ntmps108;go_wp2_with fail;refine(KD s _ HQ.out).mono ?_;rintro e w1 ⟨g,ok,i,bad,f,rfl,h1,h2,h3,h4⟩;have hgn:g≠w.heap.size:=by have:=H0.out.1.size;have h5:w.heap.size<(w.alloc (.cells #[.string ⟨#[]⟩,.string ⟨#[]⟩] 39)).heap.size:=dV H0.out.2;omega
  have hgn2:w.heap.size≠g:=Ne.symm hgn;obtain⟨a3,a4,a5,a6,a7,a8,a9,a10,af⟩:=h1.all;obtain⟨_,c1,_,_,_⟩:=h1.cells;have hz:=aT H0.out.2 h2;have hz0:w1.cell? ⟨w.heap.size,0,none⟩=some (.string ⟨#[]⟩):=(aj hz 0).trans rfl;have hz1:w1.cell? ⟨w.heap.size,1,none⟩=some (.string ⟨#[]⟩):=(aj hz 1).trans rfl;have hf0:=au hz 0;have hf1:=au hz 1;have hb1:=ah H0.out.1 H0.out.1.size h2;have hw1:w.heap.size<w1.heap.size:=dV hz;have H1:=zM (zA h1 (zA hz (zA hb1 (zA h3 hw1))));clear h1 h2 h3 h4 hz hb1 hw1;cases ok
  ·have Jz:=zM (show gp s=none from H1.out.2.2.2.1.trans (if_neg (by decide)));go_wp2_with fail;go_region;go_wp2_with fail;refine bodyPost_ret (eY rfl _ _ w.heap.size 39 #[.string ⟨#[]⟩,.string ⟨#[]⟩] (0,0) _ rfl (by have h:=aN (aN (H1.out.2.1) 0 (.string ⟨#[]⟩)) 1 (.string ⟨#[]⟩);first|exact h|simpa using h) Tryz.underlying39 rfl (by kernel_rfl)) rfl ?_;exact⟨⟨#[]⟩,⟨#[]⟩,3,_,rfl,.inr (.inl ⟨HQ.out,Jz.out,rfl,rfl,rfl⟩),dB ((H1.out.2.2.1.setCell (Nat.le_refl _) _).setCell (Nat.le_refl _) _)⟩
  ·obtain⟨p,hp⟩:∃p,eP f.m=p:=⟨_,rfl⟩;obtain⟨q,hq⟩:∃q,eP f.den=q:=⟨_,rfl⟩;have hgood:=su (H1.out.2.2.2.1.trans (if_pos rfl)) HQ.out;have hpc:=kV f.m hgood.1;have hqc:=kV f.den hgood.2.2.2.2.2.1;rw[hp]at hpc;rw[hq]at hqc;have hfs:gp s=some f:=H1.out.2.2.2.1.trans (if_pos rfl);have HG:=zM (zA hgood (zA hp (zA hq (zA hpc.1 hqc.1))));have Jz:=zM hfs;have HBM:=zM (show∀W,Calls Tryz.prog 144 #[.string f.m] W fun e w'=>e= .returned (.string p)∧w'=W from fun W=>by rw[←hp];exact uX f.m W);have HBQ:=zM (show∀W,Calls Tryz.prog 144 #[.string f.den] W fun e w'=>e= .returned (.string q)∧w'=W from fun W=>by rw[←hq];exact uX f.den W);clear hp hq hgood hpc hqc hfs;obtain⟨fr,hfr⟩:∃b,f.Ce=b:=⟨_,rfl⟩;rw[hfr]at a9;have BJ:=zM hfr;clear hfr;go_upto_if 31 with(fail);go_cut [7] (fun v7 wc=>∃(r:Nat) (ps qs:List Int) (x y:Int),v7= .pointer (some ⟨r,0,none⟩)∧Aside0 (Dt s f g w wc r ps qs x y))
   case first=>
    cases fr
    ·go_wp2_with fail;refine(Iu g s i bad f _ H1.out.1 HG.out.1.1 HG.out.1.2.1 HG.out.1.2.2.1 HG.out.1.2.2.2.1 HG.out.1.2.2.2.2.1).mono ?_;rintro e w2 (⟨rfl,h1,h2⟩|⟨k,r,ps,qs,rfl,h1,h2,h3,h4,h5,h6,h7,h8⟩)
     ·have hz:=aT H1.out.2.1 h1;have hz0:w2.cell? ⟨w.heap.size,0,none⟩=some (.string ⟨#[]⟩):=(aj hz 0).trans rfl;have hz1:w2.cell? ⟨w.heap.size,1,none⟩=some (.string ⟨#[]⟩):=(aj hz 1).trans rfl;have hf0:=au hz 0;have hf1:=au hz 1;have H2:=zM (zA hz (zA (ah H1.out.2.2.1 H1.out.2.2.1.size h1) h2));clear h1 h2 hz;go_wp2_with fail;refine bodyPost_ret (eY rfl _ _ w.heap.size 39 #[.string ⟨#[]⟩,.string ⟨#[]⟩] (0,0) _ rfl (by have h:=aN (aN (H2.out.1) 0 (.string ⟨#[]⟩)) 1 (.string ⟨#[]⟩);simpa using h) Tryz.underlying39 rfl (by kernel_rfl)) rfl ?_;exact⟨⟨#[]⟩,⟨#[]⟩,7,_,rfl,.inr (.inr ⟨HQ.out,f,Jz.out,.inl ⟨.inr (.inr ⟨BJ.out,H2.out.2.2,rfl⟩),rfl,rfl⟩⟩),((H2.out.2.1).setCell (Nat.le_refl _) _).setCell (Nat.le_refl _) _⟩
     ·have hd:=Qh h2 (by rw[HG.out.2.1];exact HG.out.2.2.2.1);have hdl:=QA h7 hd.1 hd.2.2.1 (dW h5) (dW (jT h6));have H2:=zM (show Dt s f g w w2 r ps qs (dv (eP f.m)*10^k.toNat) (10^(-k).toNat)from⟨h4,h5,h6,h7,.inr ⟨BJ.out,k,h1,h2,rfl,rfl⟩,Nat.le_trans (qU h5 1200 (Int.le_trans hdl.1 hd.2.1)) (by omega),Nat.le_trans (qU (jT h6) 600 (Int.le_trans hdl.2 hd.2.2.2)) (by omega),hd.2.2.1,aT H1.out.2.1 h8,ah H1.out.2.2.1 H1.out.2.2.1.size h8,Nat.lt_of_lt_of_le H1.out.2.2.2.2 h3,i,bad,H1.out.1.below h8⟩);clear h1 h2 h3 h4 h5 h6 h7 h8 hd hdl;go_wp2_with fail;go_meet
      case rel=>exact⟨r,ps,qs,_,_,rfl,H2⟩
    ·go_wp2_with fail;go_quiet (first|(go_at_call 144;first|exact Calls.quiet_of_same (HBM.out _)|exact Calls.quiet_of_same (HBQ.out _)));obtain⟨bq,hbq⟩:∃b,(q.toList==[48])=b:=⟨_,rfl⟩;have oV:=zM hbq;cases bq
     ·have hq0:dv q≠0:=by
       intro h;exact absurd (oV.out.symm.trans ((iZ HG.out.2.2.2.2 48 (by decide) (by decide)).2 (by rw[h];rfl))) (by decide)
      have hq1:0<dv q:=by have:=fP HG.out.2.2.2.2;omega
      have HQ0:=zM hq1;clear hq0 hq1
      by_cases hps:600<p.size
      ·have q3:decide (600<(p.size:Int))=true:=decide_eq_true (by omega);have q4:=zT hps;have yg:=zM hps;clear hps;go_wp2_with fail;refine bodyPost_ret (eY rfl _ _ w.heap.size 39 #[.string ⟨#[]⟩,.string ⟨#[]⟩] (0,0) _ rfl (by have h:=aN (aN (H1.out.2.1) 0 (.string ⟨#[]⟩)) 1 (.string ⟨#[]⟩);first|exact h|simpa using h) Tryz.underlying39 rfl (by kernel_rfl)) rfl ?_;exact⟨⟨#[]⟩,⟨#[]⟩,7,_,rfl,.inr (.inr ⟨HQ.out,f,Jz.out,.inl ⟨.inr (.inl ⟨BJ.out,by rw[HG.out.2.2.1];exact oV.out,by rw[HG.out.2.1];exact .inl yg.out,rfl⟩),rfl,rfl⟩⟩),((ai H1.out.2.2.1 nq).setCell (Nat.le_refl _) _).setCell (Nat.le_refl _) _⟩
      ·have q3:decide (600<(p.size:Int))=false:=decide_eq_false (by omega);have q4:=zF hps;have yg:=zM hps;clear hps
       by_cases MZ:600<q.size
       ·have q5:decide (600<(q.size:Int))=true:=decide_eq_true (by omega);have q6:=zT MZ;have TM:=zM MZ;clear MZ;go_wp2_with fail;refine bodyPost_ret (eY rfl _ _ w.heap.size 39 #[.string ⟨#[]⟩,.string ⟨#[]⟩] (0,0) _ rfl (by have h:=aN (aN (H1.out.2.1) 0 (.string ⟨#[]⟩)) 1 (.string ⟨#[]⟩);first|exact h|simpa using h) Tryz.underlying39 rfl (by kernel_rfl)) rfl ?_;exact⟨⟨#[]⟩,⟨#[]⟩,7,_,rfl,.inr (.inr ⟨HQ.out,f,Jz.out,.inl ⟨.inr (.inl ⟨BJ.out,by rw[HG.out.2.2.1];exact oV.out,by rw[HG.out.2.2.1];exact .inr TM.out,rfl⟩),rfl,rfl⟩⟩),((ai H1.out.2.2.1 nq).setCell (Nat.le_refl _) _).setCell (Nat.le_refl _) _⟩
       ·have q5:decide (600<(q.size:Int))=false:=decide_eq_false (by omega);have q6:=zF MZ;have TM:=zM MZ;clear MZ;obtain⟨W1,hW1⟩:∃W1,(w1.drewN nq).alloc (.cells #[.bool false,.slice none 0 0,.bool false,.slice none 0 0] 179)=W1:=⟨_,rfl⟩;have hr1:W1.heap[w1.heap.size]?=some (.cells #[.bool false,.slice none 0 0,.bool false,.slice none 0 0] 179 (0,0)):=by rw[←hW1];exact bZ (w1.drewN nq) _
        have hB1:Below w1.heap.size w1 W1:=by rw[←hW1];exact ag (ai (Below.refl _ _) nq) _
        have HW:=zM (zA hr1 hB1);clear hr1 hB1;go_wp2_with fail;refine(rP p _ HG.out.2.2.2.1.1 (by have:=yg.out;omega) HG.out.2.2.2.1.2.2).mono ?_;rintro e w2 ⟨g2,xs,rfl,h1,h2,h3,h4,h5⟩;have H2:=zM (zA h2 (zA h3 (zA h4 (zA (aT HW.out.1 h5) (ah HW.out.2 HW.out.2.size h5)))));clear h1 h2 h3 h4 h5;go_wp2_with fail;refine(rP q _ HG.out.2.2.2.2.1 (by have:=TM.out;omega) HG.out.2.2.2.2.2.2).mono ?_;rintro e w3 ⟨g3,ys,rfl,h1,h2,h3,h4,h5⟩;have H3:=zM (zA h2 (zA h3 (zA h4 (zA (aT H2.out.2.2.2.1 h5) (zA (ah H2.out.2.2.2.2 H2.out.2.2.2.2.size h5) (H2.out.1.below h5))))));clear h1 h2 h3 h4 h5
        have hys:ys≠[]:=by
         intro h;have h1:=H3.out.2.2.1;rw[h]at h1;have h2:=HQ0.out;rw[←h1]at h2;exact absurd h2 (by decide)
        go_wp2_with fail;refine(oU w1.heap.size g2 0 g3 0 false false xs ys _ _ _ _ _ H3.out.2.2.2.1 H3.out.2.2.2.2.2.c H3.out.1.c H2.out.2.1 H3.out.2.1 hys).mono ?_;rintro e w4 ⟨ps,qs,rfl,h1,h2,h3⟩;have hB4:Below w1.heap.size w1 w4:=Below.qj H3.out.2.2.2.2.1 h3 (Nat.le_refl _);have hdq:iH qs=qs:=if_neg h1.2.2.1
        have hlv:QX (dv p) (dv q) ps (iH qs):=by
         rw[hdq,←H2.out.2.2.1,←H3.out.2.2.1];exact⟨h1.2.2.2.1,h1.2.2.2.2⟩
        have hle:=QA hlv (fP HG.out.2.2.2.1) HQ0.out (dW h1.1) (dW (jT h1.2.1));have HM:=zM (show Dt s f g w w4 w1.heap.size ps qs (dv p) (dv q)from⟨h2,h1.1,h1.2.1,hlv,.inl ⟨BJ.out,by rw[HG.out.2.2.1];exact oV.out,by rw[HG.out.2.1,HG.out.2.2.1];rintro(h|h);exact absurd h (by have:=yg.out;omega);exact absurd h (by have:=TM.out;omega),by rw[HG.out.2.1],by rw[HG.out.2.2.1]⟩,Nat.le_trans (qU h1.1 600 (Int.le_trans hle.1 (o5 HG.out.2.2.2.1.2.2 (by have:=yg.out;omega)))) (by omega),Nat.le_trans (qU (jT h1.2.1) 600 (Int.le_trans hle.2 (o5 HG.out.2.2.2.2.2.2 (by have:=TM.out;omega)))) (by omega),HQ0.out,aT H1.out.2.1 hB4,ah H1.out.2.2.1 H1.out.2.2.1.size hB4,H1.out.2.2.2.2,i,bad,H1.out.1.below hB4⟩);clear h1 h2 h3 hB4 hdq hlv hle hys;go_wp2_with fail;go_meet
        case rel=>exact⟨w1.heap.size,ps,qs,_,_,rfl,HM⟩
     ·go_wp2_with fail;go_region;go_wp2_with fail;refine bodyPost_ret (eY rfl _ _ w.heap.size 39 #[.string ⟨#[]⟩,.string ⟨#[]⟩] (0,0) _ rfl (by have h:=aN (aN (H1.out.2.1) 0 (.string ⟨#[]⟩)) 1 (.string ⟨#[]⟩);first|exact h|simpa using h) Tryz.underlying39 rfl (by kernel_rfl)) rfl ?_;exact⟨⟨#[]⟩,⟨#[]⟩,8,_,rfl,.inr (.inr ⟨HQ.out,f,Jz.out,.inl ⟨.inl ⟨BJ.out,by rw[HG.out.2.2.1];exact oV.out,rfl⟩,rfl,rfl⟩⟩),((ai H1.out.2.2.1 (nq+1)).setCell (Nat.le_refl _) _).setCell (Nat.le_refl _) _⟩
   case rest=>
    obtain⟨r,ps,qs,x,y,rfl,HM⟩:=hcut;obtain⟨hR,wp,wq,hlv,hfv,l1,l2,hy,hz,hb,hlt,i2,aqF,hF⟩:=HM.out;obtain⟨ng,ZE⟩:∃b,f.neg=b:=⟨_,rfl⟩;obtain⟨b3,_,_,_,_,_,_,_,_⟩:=hF.all;rw[ZE]at b3;have HNG:=zM ZE;have HE:=zM (Rx wp hlv hy);have HL:=zM (zA l1 (zA l2 (zA wp (zA wq hb))));have HV:=zM (zA hlv hfv);have HR:=zM (zA hR (zA hz hlt));clear hR wp wq hlv hfv l1 l2 hy hz hb hlt hF ZE a3 a4 a5 a6 a7 a8 a9 a10 af c1 hz0 hz1 hf0 hf1 HM;cases ng
    ·go_wp2_with fail;refine(yS r false ps qs _ HR.out.1 HL.out.2.2.1 HL.out.2.2.2.1 HL.out.1 HL.out.2.1).mono ?_;rintro e w2 ⟨t,d,rfl,h1,h2,h3,h4,h5⟩;have hz:=aT HR.out.2.1 h5;have hbb:=ah HL.out.2.2.2.2 HL.out.2.2.2.2.size h5;have HT:=zM (show Ib x y t d from⟨h1,h3,by rw[h2];exact HV.out.1.1,by rw[h4];exact HV.out.1.2⟩);have hsg:signed (false&& !ps.isEmpty) t=signed (f.neg&&decide (x≠0)) t:=by rw[HNG.out];rfl
     rw[hsg];obtain⟨n,hn⟩:∃n,signed (f.neg&&decide (x≠0)) t=n:=⟨_,rfl⟩;rw[hn];have HN:=zM hn;clear h1 h2 h3 h4 h5 hsg hn
     by_cases hbig:600<t.size∨600<d.size
     ·have Wp:BG n d t= .tuple #[.agg #[.string ⟨#[]⟩,.string ⟨#[]⟩],.int .i64 7]:=if_pos hbig;rw[Wp];have hzz:(w2.alloc (.cells #[.string ⟨#[]⟩,.string ⟨#[]⟩] 39)).heap[w.heap.size]?=some (.cells #[.string ⟨#[]⟩,.string ⟨#[]⟩] 39 (0,0)):=aT hz (ag (Below.refl _ _) _);have hz0:(w2.alloc (.cells #[.string ⟨#[]⟩,.string ⟨#[]⟩] 39)).cell? ⟨w.heap.size,0,none⟩=some (.string ⟨#[]⟩):=(aj hzz 0).trans rfl;have hz1:(w2.alloc (.cells #[.string ⟨#[]⟩,.string ⟨#[]⟩] 39)).cell? ⟨w.heap.size,1,none⟩=some (.string ⟨#[]⟩):=(aj hzz 1).trans rfl;have hf0:=au hzz 0;have hf1:=au hzz 1;have HZ:=zM (zA hzz (zA (ah hbb hbb.size (ag (Below.refl _ _) (.cells #[.string ⟨#[]⟩,.string ⟨#[]⟩] 39))) hbig));clear hzz hz hbb hbig Wp;go_wp2_with fail;refine bodyPost_ret (eY rfl _ _ w.heap.size 39 #[.string ⟨#[]⟩,.string ⟨#[]⟩] (0,0) _ rfl (by have h:=aN (aN (HZ.out.1) 0 (.string ⟨#[]⟩)) 1 (.string ⟨#[]⟩);first|exact h|simpa using h) Tryz.underlying39 rfl (by kernel_rfl)) rfl ?_;exact⟨⟨#[]⟩,⟨#[]⟩,7,_,rfl,.inr (.inr ⟨HQ.out,f,Jz.out,.inr ⟨x,y,HV.out.2,t,d,HT.out,.inl ⟨HZ.out.2.2,rfl,rfl,rfl⟩⟩⟩),(HZ.out.2.1.setCell (Nat.le_refl _) _).setCell (Nat.le_refl _) _⟩
     ·have Wp:BG n d t= .tuple #[.agg #[.string n,.string d],.int .i64 0]:=if_neg hbig;rw[Wp];have hzz:(w2.alloc (.cells #[.string n,.string d] 39)).heap[w.heap.size]?=some (.cells #[.string ⟨#[]⟩,.string ⟨#[]⟩] 39 (0,0)):=aT hz (ag (Below.refl _ _) _);have hz0:(w2.alloc (.cells #[.string n,.string d] 39)).cell? ⟨w.heap.size,0,none⟩=some (.string ⟨#[]⟩):=(aj hzz 0).trans rfl;have hz1:(w2.alloc (.cells #[.string n,.string d] 39)).cell? ⟨w.heap.size,1,none⟩=some (.string ⟨#[]⟩):=(aj hzz 1).trans rfl;have hf0:=au hzz 0;have hf1:=au hzz 1;have HZ:=zM (zA hzz (zA (ah hbb hbb.size (ag (Below.refl _ _) (.cells #[.string n,.string d] 39))) hbig));clear hzz hz hbb hbig Wp;go_wp2_with fail;refine bodyPost_ret (eY rfl _ _ w.heap.size 39 #[.string n,.string d] (0,0) _ rfl (by have h:=aN (aN (HZ.out.1) 0 (.string n)) 1 (.string d);first|exact h|simpa using h) Tryz.underlying39 rfl (by kernel_rfl)) rfl ?_;exact⟨n,d,0,_,rfl,.inr (.inr ⟨HQ.out,f,Jz.out,.inr ⟨x,y,HV.out.2,t,d,HT.out,.inr ⟨HZ.out.2.2,HN.out.symm,rfl,rfl⟩⟩⟩),(HZ.out.2.1.setCell (Nat.le_refl _) _).setCell (Nat.le_refl _) _⟩
    ·obtain⟨v0,v1,v2,v3,hv⟩:=HR.out.1.four;go_wp2_with fail;refine(LQ r r false ps qs _ _ _ _ _ hv HR.out.1 HL.out.2.2.1 HL.out.2.2.2.1 (by intro h;cases h)).mono ?_;rintro e w3 ⟨rfl,h1,h2⟩;have hz3:=(h2.block w.heap.size (dV HR.out.2.1) (by have:=HR.out.2.2;omega)).trans HR.out.2.1;have H3:=zM (zA h1 (zA hz3 (Below.qj HL.out.2.2.2.2 h2 (Nat.le_of_lt HR.out.2.2))));clear h1 h2 hz3 hv;go_wp2_with fail;refine(yS r (!false&& !ps.isEmpty) ps (iH qs) _ H3.out.1 HL.out.2.2.1 (jT HL.out.2.2.2.1) HL.out.1 (by rw[F7];exact HL.out.2.1)).mono ?_;rintro e w2 ⟨t,d,rfl,h1,h2,h3,h4,h5⟩;rw[F7]at h4;have hz:=aT H3.out.2.1 h5;have hbb:=ah H3.out.2.2 H3.out.2.2.size h5;have HT:=zM (show Ib x y t d from⟨h1,h3,by rw[h2];exact HV.out.1.1,by rw[h4];exact HV.out.1.2⟩);have hsg:signed ((!false&& !ps.isEmpty)&& !ps.isEmpty) t=signed (f.neg&&decide (x≠0)) t:=by rw[HNG.out,←HE.out];cases ps.isEmpty<;>rfl
     rw[hsg];obtain⟨n,hn⟩:∃n,signed (f.neg&&decide (x≠0)) t=n:=⟨_,rfl⟩;rw[hn];have HN:=zM hn;clear h1 h2 h3 h4 h5 hsg hn
     by_cases hbig:600<t.size∨600<d.size
     ·have Wp:BG n d t= .tuple #[.agg #[.string ⟨#[]⟩,.string ⟨#[]⟩],.int .i64 7]:=if_pos hbig;rw[Wp];have hzz:(w2.alloc (.cells #[.string ⟨#[]⟩,.string ⟨#[]⟩] 39)).heap[w.heap.size]?=some (.cells #[.string ⟨#[]⟩,.string ⟨#[]⟩] 39 (0,0)):=aT hz (ag (Below.refl _ _) _);have hz0:(w2.alloc (.cells #[.string ⟨#[]⟩,.string ⟨#[]⟩] 39)).cell? ⟨w.heap.size,0,none⟩=some (.string ⟨#[]⟩):=(aj hzz 0).trans rfl;have hz1:(w2.alloc (.cells #[.string ⟨#[]⟩,.string ⟨#[]⟩] 39)).cell? ⟨w.heap.size,1,none⟩=some (.string ⟨#[]⟩):=(aj hzz 1).trans rfl;have hf0:=au hzz 0;have hf1:=au hzz 1;have HZ:=zM (zA hzz (zA (ah hbb hbb.size (ag (Below.refl _ _) (.cells #[.string ⟨#[]⟩,.string ⟨#[]⟩] 39))) hbig));clear hzz hz hbb hbig Wp;go_wp2_with fail;refine bodyPost_ret (eY rfl _ _ w.heap.size 39 #[.string ⟨#[]⟩,.string ⟨#[]⟩] (0,0) _ rfl (by have h:=aN (aN (HZ.out.1) 0 (.string ⟨#[]⟩)) 1 (.string ⟨#[]⟩);first|exact h|simpa using h) Tryz.underlying39 rfl (by kernel_rfl)) rfl ?_;exact⟨⟨#[]⟩,⟨#[]⟩,7,_,rfl,.inr (.inr ⟨HQ.out,f,Jz.out,.inr ⟨x,y,HV.out.2,t,d,HT.out,.inl ⟨HZ.out.2.2,rfl,rfl,rfl⟩⟩⟩),(HZ.out.2.1.setCell (Nat.le_refl _) _).setCell (Nat.le_refl _) _⟩
     ·have Wp:BG n d t= .tuple #[.agg #[.string n,.string d],.int .i64 0]:=if_neg hbig;rw[Wp];have hzz:(w2.alloc (.cells #[.string n,.string d] 39)).heap[w.heap.size]?=some (.cells #[.string ⟨#[]⟩,.string ⟨#[]⟩] 39 (0,0)):=aT hz (ag (Below.refl _ _) _);have hz0:(w2.alloc (.cells #[.string n,.string d] 39)).cell? ⟨w.heap.size,0,none⟩=some (.string ⟨#[]⟩):=(aj hzz 0).trans rfl;have hz1:(w2.alloc (.cells #[.string n,.string d] 39)).cell? ⟨w.heap.size,1,none⟩=some (.string ⟨#[]⟩):=(aj hzz 1).trans rfl;have hf0:=au hzz 0;have hf1:=au hzz 1;have HZ:=zM (zA hzz (zA (ah hbb hbb.size (ag (Below.refl _ _) (.cells #[.string n,.string d] 39))) hbig));clear hzz hz hbb hbig Wp;go_wp2_with fail;refine bodyPost_ret (eY rfl _ _ w.heap.size 39 #[.string n,.string d] (0,0) _ rfl (by have h:=aN (aN (HZ.out.1) 0 (.string n)) 1 (.string d);first|exact h|simpa using h) Tryz.underlying39 rfl (by kernel_rfl)) rfl ?_;exact⟨n,d,0,_,rfl,.inr (.inr ⟨HQ.out,f,Jz.out,.inr ⟨x,y,HV.out.2,t,d,HT.out,.inr ⟨HZ.out.2.2,HN.out.symm,rfl,rfl⟩⟩⟩),(HZ.out.2.1.setCell (Nat.le_refl _) _).setCell (Nat.le_refl _) _⟩
theorem IX {t:ByteArray}(h:Canon t):minus t=false:=by
 unfold minus;refine decide_eq_false ?_;rintro⟨h1,h2⟩;have h3:=(C9 t).1 h.2.2 0 h1;rw[show((0:Nat):Int)=0 from rfl,h2]at h3;exact absurd h3.1 (by decide)
theorem IY (t:ByteArray):minus (signed true t)=true∧body (signed true t)=t:=by
 have hd:(signed true t).data.toList=45::t.data.toList:=by simp[signed,ByteArray.data_append]
 have hs:=bV (signed true t);rw[hd,List.length_cons,bV]at hs
 have hb:bt (signed true t) 0=45:=by
  rw[←gW];simp[bytesOf,hd,rd]
 have hm:minus (signed true t)=true:=by
  unfold minus;exact decide_eq_true ⟨by omega,hb⟩
 refine⟨hm,?_⟩;unfold body;rw[if_pos hm];refine ByteArray.ext (Array.ext' ?_);rw[ByteArray.data_extract,Array.toList_extract,List.extract,hd,←hs];simp[bV];exact List.take_of_length_le (by rw[bV];omega)
theorem aa1 {x y a b:Int}(ha:0≤a)(hb:0≤b)(hy:0<y)(h1:a*ja x y=x)(h2:b*ja x y=y):ja a b=1:=by
 have hg:=qy (a:=x) hy;obtain⟨g,hgg⟩:∃g,ja x y=g:=⟨_,rfl⟩;rw[hgg]at h1 h2 hg;have e1:x.toNat=a.toNat *g.toNat:=by rw[←h1,Int.toNat_mul ha (Int.le_of_lt hg)]
 have e2:y.toNat=b.toNat *g.toNat:=by rw[←h2,Int.toNat_mul hb (Int.le_of_lt hg)]
 have e3:Nat.gcd x.toNat y.toNat=g.toNat:=by
  have:((Nat.gcd x.toNat y.toNat:Nat):Int)=g:=hgg;omega
 rw[e1,e2,Nat.gcd_mul_right]at e3;have e4:Nat.gcd a.toNat b.toNat=1:=Nat.eq_of_mul_eq_mul_right (show 0<g.toNat by omega) (by rw[e3,Nat.one_mul])
 show((Nat.gcd a.toNat b.toNat:Nat):Int)=1
 rw[e4];rfl
theorem PO {neg:Bool}{x y:Int}{t d:ByteArray}(h:Ib x y t d)(hy:0<y)(ht:t.size≤600)(hd:d.size≤600):kL (signed (neg&&decide (x≠0)) t) d:=by
 obtain⟨ct,cd,e1,e2⟩:=h;have hg:=qy (a:=x) hy
 have hd0:dv d≠0:=by
  intro h;rw[h,Int.zero_mul]at e2;omega
 have hl:=aa1 (fP ct) (fP cd) hy e1 e2;have nt:lU t:=⟨ct.1,ht,ct.2⟩;have nd:lU d:=⟨cd.1,hd,cd.2⟩;obtain⟨sg,hsg⟩:∃b,(neg&&decide (x≠0))=b:=⟨_,rfl⟩;rw[hsg];cases sg
 ·have hm:=IX ct
  have hb:body (signed false t)=t:=by
   show body t=t
   unfold body;rw[if_neg (by rw[hm];decide)]
  refine⟨⟨?_,?_⟩,nd,hd0,?_⟩
  ·rw[hb];exact nt
  ·intro h;rw[show signed false t=t from rfl,hm]at h;cases h
  ·rw[hb];exact hl
 ·have hb:=(IY t).2
  have hx:x≠0:=by
   rw[Bool.and_eq_true]at hsg;exact of_decide_eq_true hsg.2
  refine⟨⟨?_,?_⟩,nd,hd0,?_⟩
  ·rw[hb];exact nt
  ·intro _ h;rw[hb]at h;rw[h,Int.zero_mul]at e1;exact hx e1.symm
  ·rw[hb];exact hl
theorem Gt {s:ByteArray}{f:Fm}{x y:Int}(h:FC f x y)(hg:Good s f):0<y:=by
 rcases h with⟨_,h1,_,_,h2⟩|⟨_,k,_,_,_,h2⟩
 ·have hc:=(kV f.den hg.2.2.2.2.2.1).1;have h3:=fP hc
  have h4:dv (eP f.den)≠0:=by
   intro h;exact absurd (h1.symm.trans ((iZ hc 48 (by decide) (by decide)).2 (by rw[h];rfl))) (by decide)
  omega
 ·rw[h2];exact Int.pow_pos (by omega)
theorem Bv {s n d:ByteArray}{er:Int}(h:qZ s n d er)(he:er=0):kL n d:=by
 rcases h with⟨_,_,_,h⟩|⟨_,_,_,_,h⟩|⟨hs,f,hf,h|⟨x,y,hv,t,d2,hl,h|⟨hz,hn,hd,_⟩⟩⟩
 ·exact absurd (h.symm.trans he) (by decide)
 ·exact absurd (h.symm.trans he) (by decide)
 ·rcases h.1 with h|h|h
  ·exact absurd (h.2.2.symm.trans he) (by decide)
  ·exact absurd (h.2.2.2.symm.trans he) (by decide)
  ·exact absurd (h.2.2.symm.trans he) (by decide)
 ·exact absurd (h.2.2.2.symm.trans he) (by decide)
 ·rw[hn,hd];exact PO hl (Gt hv (su hf hs)) (by omega) (by omega)
def lW (s n d:ByteArray)(er:Int):Prop:=∃e0,qZ s n d e0∧((e0≠0∧er=e0)∨(e0=0∧((mf n d).toList==s.toList)=false∧er=3)∨(e0=0∧((mf n d).toList==s.toList)=true∧er=0))
theorem DW (s:ByteArray)(w:World):
  Calls Tryz.prog 74 #[.string s] w fun e w'=>∃n d er,e= .returned (.tuple #[.agg #[.string n,.string d],yH er])∧lW s n d er∧Below w.heap.size w w':=by
 have hb0:Below w.heap.size w (w.alloc (.cells #[.string ⟨#[]⟩,.string ⟨#[]⟩] 39)):=ag (Below.refl _ _) _;have H0:=zM (zA hb0 (bZ w (.cells #[.string ⟨#[]⟩,.string ⟨#[]⟩] 39)));clear hb0;go_enter Tryz.func74,Tryz.ntmps74;go_wp2_with fail;refine(Fa s _).mono ?_;rintro e w1 ⟨n,d,er,pos,rfl,h1,h2⟩;have hz:=aT (aT H0.out.2 h2) (ag (Below.refl w1.heap.size w1) (.cells #[.string n,.string d] 39));have hb:=ah (ah H0.out.1 H0.out.1.size h2) (ah H0.out.1 H0.out.1.size h2).size (ag (Below.refl w1.heap.size w1) (.cells #[.string n,.string d] 39));have hn1:=bZ w1 (.cells #[.string n,.string d] 39);have H1:=zM (zA h1 (zA hz (zA hb hn1)));obtain⟨W2,hW2⟩:∃W2,w1.alloc (.cells #[.string n,.string d] 39)=W2:=⟨_,rfl⟩;rw[hW2]at hz hb hn1 H1;have hz0:W2.cell? ⟨w.heap.size,0,none⟩=some (.string ⟨#[]⟩):=(aj hz 0).trans rfl;have hz1:W2.cell? ⟨w.heap.size,1,none⟩=some (.string ⟨#[]⟩):=(aj hz 1).trans rfl;have hf0:=au hz 0;have hf1:=au hz 1;have hy0:W2.cell? ⟨w1.heap.size,0,none⟩=some (.string n):=(aj hn1 0).trans rfl;have hy1:W2.cell? ⟨w1.heap.size,1,none⟩=some (.string d):=(aj hn1 1).trans rfl;clear h1 h2 hz hb hn1
 by_cases he:er=0
 ·have HE:=zM he;subst he;have HR:=zM (Bv H1.out.1 rfl);go_wp2_with fail;refine(xK n d _ HR.out).mono ?_;rintro e w3 ⟨rfl,h1⟩;have hz:=aT H1.out.2.1 h1;have hn1:=aT H1.out.2.2.2 h1;have hb:=ah H1.out.2.2.1 H1.out.2.2.1.size h1;have hz0:w3.cell? ⟨w.heap.size,0,none⟩=some (.string ⟨#[]⟩):=(aj hz 0).trans rfl;have hz1:w3.cell? ⟨w.heap.size,1,none⟩=some (.string ⟨#[]⟩):=(aj hz 1).trans rfl;have hf0:=au hz 0;have hf1:=au hz 1;have hy0:w3.cell? ⟨w1.heap.size,0,none⟩=some (.string n):=(aj hn1 0).trans rfl;have hy1:w3.cell? ⟨w1.heap.size,1,none⟩=some (.string d):=(aj hn1 1).trans rfl;have H3:=zM (zA hz hb);clear h1 hz hb hn1;obtain⟨R,hRR⟩:∃R,mf n d=R:=⟨_,rfl⟩;rw[hRR];obtain⟨b,hbb⟩:∃b,(R.toList==s.toList)=b:=⟨_,rfl⟩;have HB:=zM (show((mf n d).toList==s.toList)=b by rw[hRR];exact hbb);clear hRR;cases b
  ·go_wp2_with fail;refine bodyPost_ret (dw rfl _ _ w.heap.size 39 #[.string n,.string d] (0,0) _ rfl (by have h:=aN (aN (H3.out.1) 0 (.string n)) 1 (.string d);first|exact h|simpa using h) Tryz.underlying39 rfl (by kernel_rfl)) rfl ?_;exact⟨n,d,3,rfl,⟨0,H1.out.1,.inr (.inl ⟨rfl,HB.out,rfl⟩)⟩,((H3.out.2).setCell (Nat.le_refl _) _).setCell (Nat.le_refl _) _⟩
  ·go_wp2_with fail;refine bodyPost_ret (dw rfl _ _ w.heap.size 39 #[.string n,.string d] (0,0) _ rfl (by have h:=aN (aN (H3.out.1) 0 (.string n)) 1 (.string d);first|exact h|simpa using h) Tryz.underlying39 rfl (by kernel_rfl)) rfl ?_;exact⟨n,d,0,rfl,⟨0,H1.out.1,.inr (.inr ⟨rfl,HB.out,rfl⟩)⟩,((H3.out.2).setCell (Nat.le_refl _) _).setCell (Nat.le_refl _) _⟩
 ·have q0:(er !=0)=true:=bne_iff_ne.mpr he;have HE:=zM he;clear he;go_wp2_with fail;refine bodyPost_ret (dw rfl _ _ w.heap.size 39 #[.string n,.string d] (0,0) _ rfl (by have h:=aN (aN (H1.out.2.1) 0 (.string n)) 1 (.string d);first|exact h|simpa using h) Tryz.underlying39 rfl (by kernel_rfl)) rfl ?_;exact⟨n,d,er,by rw[show yH er= .iface 83 (.agg #[.int .i64 er])from if_neg HE.out];rfl,⟨er,H1.out.1,.inl ⟨HE.out,rfl⟩⟩,((H1.out.2.2.1).setCell (Nat.le_refl _) _).setCell (Nat.le_refl _) _⟩
end Go.Proofs.YthbdjmopolpjmaaGreatDoor.C
namespace Go.Proofs.YthbdjmopolpjmaaGreatDoor.C
open Go.RowKit Go.Proofs.YthbdjmopolpjmaaGreatDoorW.PrintWords Go.Proofs.YthbdjmopolpjmaaGreatDoorW.PrintLast Go.Proofs.YthbdjmopolpjmaaGreatDoorW.PrintMore Go.Proofs.YthbdjmopolpjmaaGreatDoor.F Go.Proofs.YthbdjmopolpjmaaGreatDoor.M
theorem XC {x y:Int}{t d t2 d2:ByteArray}(h:Ib x y t d)(h2:Ib x y t2 d2)(hy:0<y):t=t2∧d=d2:=by
 have hg:=qy (a:=x) hy;refine⟨zH h.1 h2.1 ?_,zH h.2.1 h2.2.1 ?_⟩
 ·exact Int.eq_of_mul_eq_mul_right (by omega) (h.2.2.1.trans h2.2.2.1.symm)
 ·exact Int.eq_of_mul_eq_mul_right (by omega) (h.2.2.2.trans h2.2.2.2.symm)
theorem Yn {neg:Bool}{x y:Int}{n d n2 d2:ByteArray}{e e2:Int}(h:Ik neg x y n d e)(h2:Ik neg x y n2 d2 e2)(hy:0<y):n=n2∧d=d2∧e=e2:=by
 obtain⟨t,b,hl,h⟩:=h;obtain⟨t2,b2,hl2,h2⟩:=h2;obtain⟨rfl,rfl⟩:=XC hl hl2 hy;rcases h with⟨h0,rfl,rfl,rfl⟩|⟨h0,rfl,rfl,rfl⟩<;>rcases h2 with⟨h1,rfl,rfl,rfl⟩|⟨h1,rfl,rfl,rfl⟩
 ·exact⟨rfl,rfl,rfl⟩
 ·exact absurd h0 h1
 ·exact absurd h1 h0
 ·exact⟨rfl,rfl,rfl⟩
theorem F6 {f:Fm}{k k2:Int}(h:wF f k)(h2:wF f k2):k=k2:=h.2.2.trans h2.2.2.symm
theorem RF {f:Fm}{x y x2 y2:Int}(h:FC f x y)(h2:FC f x2 y2):x=x2∧y=y2:=by
 rcases h with⟨hf,_,_,hx,hy⟩|⟨hf,k,hk,_,hx,hy⟩<;>rcases h2 with⟨hf2,_,_,hx2,hy2⟩|⟨hf2,k2,hk2,_,hx2,hy2⟩
 ·exact⟨hx.trans hx2.symm,hy.trans hy2.symm⟩
 ·exact absurd (hf.symm.trans hf2) (by decide)
 ·exact absurd (hf2.symm.trans hf) (by decide)
 ·obtain rfl:=F6 hk hk2;exact⟨hx.trans hx2.symm,hy.trans hy2.symm⟩
theorem Oe {f:Fm}{e e2:Int}(h:Hm f e)(h2:Hm f e2):e=e2:=by
 rcases h with⟨hf,hz,he⟩|⟨hf,hz,_,he⟩|⟨hf,_,he⟩<;>rcases h2 with⟨hf2,hz2,he2⟩|⟨hf2,hz2,_,he2⟩|⟨hf2,_,he2⟩
 ·exact he.trans he2.symm
 ·exact absurd (hz.symm.trans hz2) (by decide)
 ·exact absurd (hf.symm.trans hf2) (by decide)
 ·exact absurd (hz2.symm.trans hz) (by decide)
 ·exact he.trans he2.symm
 ·exact absurd (hf.symm.trans hf2) (by decide)
 ·exact absurd (hf2.symm.trans hf) (by decide)
 ·exact absurd (hf2.symm.trans hf) (by decide)
 ·exact he.trans he2.symm
theorem DX {f:Fm}{e x y:Int}(h:Hm f e)(h2:FC f x y):False:=by
 rcases h with⟨hf,hz,he⟩|⟨hf,hz,hb,he⟩|⟨hf,hn,he⟩<;>rcases h2 with⟨hf2,hz2,hb2,_⟩|⟨hf2,k,hk,hb2,_⟩
 ·exact absurd (hz.symm.trans hz2) (by decide)
 ·exact absurd (hf.symm.trans hf2) (by decide)
 ·exact hb2 hb
 ·exact absurd (hf.symm.trans hf2) (by decide)
 ·exact absurd (hf2.symm.trans hf) (by decide)
 ·exact hb2 (hn k hk)
theorem SN {s n d n2 d2:ByteArray}{e e2:Int}(h:qZ s n d e)(h2:qZ s n2 d2 e2):n=n2∧d=d2∧e=e2:=by
 rcases h with⟨hs,hn,hd,he⟩|⟨hs,hf,hn,hd,he⟩|⟨hs,f,hf,h⟩<;>rcases h2 with⟨hs2,hn2,hd2,he2⟩|⟨hs2,hf2,hn2,hd2,he2⟩|⟨hs2,f2,hf2,h2⟩
 ·exact⟨hn.trans hn2.symm,hd.trans hd2.symm,he.trans he2.symm⟩
 ·omega
 ·omega
 ·omega
 ·exact⟨hn.trans hn2.symm,hd.trans hd2.symm,he.trans he2.symm⟩
 ·exact absurd (hf.symm.trans hf2) (by simp)
 ·omega
 ·exact absurd (hf2.symm.trans hf) (by simp)
 ·obtain rfl:f=f2:=Option.some.inj (hf.symm.trans hf2);rcases h with⟨h,hn,hd⟩|⟨x,y,hv,ht⟩<;>rcases h2 with⟨h2,hn2,hd2⟩|⟨x2,y2,hv2,ht2⟩
  ·exact⟨hn.trans hn2.symm,hd.trans hd2.symm,Oe h h2⟩
  ·exact(DX h hv2).elim
  ·exact(DX h2 hv).elim
  ·obtain⟨rfl,rfl⟩:=RF hv hv2;exact Yn ht ht2 (Gt hv (su hf hs))
theorem Gn {s n d n2 d2:ByteArray}{e e2:Int}(h:lW s n d e)(h2:lW s n2 d2 e2):n=n2∧d=d2∧e=e2:=by
 obtain⟨a,hp,h⟩:=h;obtain⟨b,hp2,h2⟩:=h2;obtain⟨rfl,rfl,rfl⟩:=SN hp hp2;refine⟨rfl,rfl,?_⟩;rcases h with⟨h0,he⟩|⟨h0,hb,he⟩|⟨h0,hb,he⟩<;>rcases h2 with⟨k0,ke⟩|⟨k0,kb,ke⟩|⟨k0,kb,ke⟩
 ·exact he.trans ke.symm
 ·exact absurd k0 h0
 ·exact absurd k0 h0
 ·exact absurd h0 k0
 ·exact he.trans ke.symm
 ·exact absurd (hb.symm.trans kb) (by decide)
 ·exact absurd h0 k0
 ·exact absurd (kb.symm.trans hb) (by decide)
 ·exact he.trans ke.symm
theorem Io (c:UInt8)(s:ByteArray)(i:Int):(c==(bt s i).toNat.toUInt8)=(bt s i==(c.toNat:Int)):=by
 have h:=yA s i;have hc:=c.toNat_lt
 have hb:((bt s i).toNat.toUInt8).toNat=(bt s i).toNat:=by
  rw[Nat.toUInt8,UInt8.toNat_ofNat'];omega
 by_cases e:bt s i=(c.toNat:Int)
 ·rw[beq_iff_eq.mpr e];refine beq_iff_eq.mpr (UInt8.toNat_inj.1 ?_);rw[hb];omega
 ·rw[beq_eq_false_iff_ne.mpr e];refine beq_eq_false_iff_ne.mpr (fun e2=>e ?_);have:=congrArg UInt8.toNat e2;rw[hb]at this;omega
theorem ry (c:UInt8)(s:ByteArray)(i:Nat):hits ⟨#[c]⟩ s i=(decide (i<s.size)&&(bt s (i:Int)==(c.toNat:Int))):=by
 unfold hits
 congr 1
 rw[←Io]
 show decide (0≤Lib.indexByte [c] _)=_
 cases h:(c==(bt s (i:Int)).toNat.toUInt8)
 ·simp[Lib.indexByte,h]
 ·simp[Lib.indexByte,h]
theorem oZ:∀(k:Nat) (v:Int),dec v (List.replicate k 48)=v*10^k
 |0,v=>(Int.mul_one v).symm
 |k+1,v=>by
  rw[List.replicate_succ]
  show dec (v*10+(48- 48)) (List.replicate k 48)=_
  rw[oZ k,Int.pow_succ,Int.sub_self,Int.add_zero,Int.mul_assoc,Int.mul_comm 10]
def pt (ps:List ByteArray)(i:Nat):ByteArray:=ps.getD i ⟨#[]⟩
theorem uJ {ps:List ByteArray}{i:Nat}(h:i<ps.length):pt ps i=ps[i]:=by simp[pt,h]
theorem xP {ps:List ByteArray}{i:Nat}(h:i<ps.length):pt ps i∈ps:=by rw[uJ h];exact List.getElem_mem h
structure rJ (ps:List ByteArray):Prop where
 len:8≤ps.length
 c0:Canon (pt ps 0)
 c1:Canon (pt ps 1)
 c2:Canon (pt ps 2)
 sign:((pt ps 3).toList==[43])=true∨((pt ps 3).toList==[120])=true
 opn:∀i,4≤i→i<ps.length→i≠5→i≠6→(oM (pt ps i)).2=true
def Nc (m:Int)(ps:List ByteArray)(n d n2 d2:ByteArray):iU:=⟨mn (dv (pt ps 0)) m,(oM (pt ps 4)).1,⟨n,d⟩,⟨n2,d2⟩,(oM (pt ps 7)).1,mn (dv (pt ps 2)) m,(ps.drop 8).map (fun t=>(oM t).1),mn (dv (pt ps 1)) m,((pt ps 3).toList==[120])⟩
def oO (ps:List ByteArray)(er:Int)(x:iU):Prop:=
 (¬rJ ps∧er=170)∨
 (rJ ps∧∃n d e1,lW (pt ps 5) n d e1∧((e1≠0∧er=e1)∨(e1=0∧∃n2 d2 e2,lW (pt ps 6) n2 d2 e2∧((e2≠0∧er=e2)∨(e2=0∧er=iK (Nc 1000001 ps n d n2 d2)∧(er=0→x=Nc 1000001 ps n d n2 d2))))))
theorem DJ {m:Int}(hm:1000001≤m){ps:List ByteArray}(h:rJ ps)(n d n2 d2:ByteArray):Bounds (Nc m ps n d n2 d2)↔1≤dv (pt ps 0)∧dv (pt ps 0)≤4096∧dv (pt ps 1)≤4096∧dv (pt ps 2)≤1000000:=by
 have h0:=fP h.c0;have h1:=fP h.c1;have h2:=fP h.c2
 show(1≤mn (dv (pt ps 0)) m∧mn (dv (pt ps 0)) m≤4096∧0≤mn (dv (pt ps 1)) m∧mn (dv (pt ps 1)) m≤4096∧0≤mn (dv (pt ps 2)) m∧mn (dv (pt ps 2)) m≤1000000)↔_
 unfold mn;omega
theorem aa2 {m m2:Int}(hm:1000001≤m)(hm2:1000001≤m2){ps:List ByteArray}(h:rJ ps)(n d n2 d2:ByteArray):
  iK (Nc m ps n d n2 d2)=iK (Nc m2 ps n d n2 d2)∧(iK (Nc m ps n d n2 d2)=0→Nc m ps n d n2 d2=Nc m2 ps n d n2 d2):=by
 have hb:=DJ hm h n d n2 d2;have hb2:=DJ hm2 h n d n2 d2
 by_cases hh:1≤dv (pt ps 0)∧dv (pt ps 0)≤4096∧dv (pt ps 1)≤4096∧dv (pt ps 2)≤1000000
 ·have e:Nc m ps n d n2 d2=Nc m2 ps n d n2 d2:=by
   have h0:=fP h.c0;have h1:=fP h.c1;have h2:=fP h.c2;unfold Nc;rw[show mn (dv (pt ps 0)) m=mn (dv (pt ps 0)) m2 by unfold mn;omega,show mn (dv (pt ps 1)) m=mn (dv (pt ps 1)) m2 by unfold mn;omega,show mn (dv (pt ps 2)) m=mn (dv (pt ps 2)) m2 by unfold mn;omega]
  rw[e];exact⟨rfl,fun _=>rfl⟩
 ·have e1:=fG (fun k=>hh (hb.1 k));have e2:=fG (fun k=>hh (hb2.1 k));rw[e1,e2];exact⟨rfl,fun h=>absurd h (by decide)⟩
theorem Bl {s n d:ByteArray}{er:Int}(h:lW s n d er):er=0∨er=3∨er=4∨er=7∨er=8:=by
 obtain⟨e0,hp,h⟩:=h
 have hc:e0=0∨e0=3∨e0=4∨e0=7∨e0=8:=by
  rcases hp with⟨_,_,_,h⟩|⟨_,_,_,_,h⟩|⟨hs,f,hf,⟨h,_,_⟩|⟨x,y,hv,t,d2,hl,h|h⟩⟩
  ·omega
  ·omega
  ·rcases h with⟨_,_,h⟩|⟨_,_,_,h⟩|⟨_,_,h⟩<;>omega
  ·have:=h.2.2.2;omega
  ·have:=h.2.2.2;omega
 rcases h with⟨_,h⟩|⟨_,_,h⟩|⟨_,_,h⟩
 ·omega
 ·omega
 ·omega
theorem NV (x:iU):iK x=0∨iK x=1∨iK x=3∨iK x=9∨iK x=4:=by
 by_cases hb:Bounds x
 ·by_cases hr:kL x.f2.f0 x.f2.f1∧kL x.f3.f0 x.f3.f1
  ·by_cases hm:minus x.f3.f0=true
   ·rw[rQ hb hr hm];omega
   ·by_cases hl:8<x.f6.length
    ·rw[uZ hb hr hm hl];omega
    ·rw[CQ hb hr hm hl];omega
  ·rw[lG hb hr];omega
 ·rw[fG hb];omega
theorem Lm {ps:List ByteArray}{er TN:Int}{x x2:iU}(h:oO ps er x)(h2:oO ps TN x2):er=TN∧(er=0→x=x2):=by
 rcases h with⟨h0,he⟩|⟨h0,n,d,e1,hx,h⟩<;>rcases h2 with⟨k0,ke⟩|⟨k0,n2,d2,e2,hx2,h2⟩
 ·exact⟨he.trans ke.symm,fun h=>by omega⟩
 ·exact absurd k0 h0
 ·exact absurd h0 k0
 ·obtain⟨rfl,rfl,rfl⟩:=Gn hx hx2;rcases h with⟨a0,ae⟩|⟨a0,m,b,f1,hy,h⟩<;>rcases h2 with⟨b0,be⟩|⟨b0,m2,b2,f2,hy2,h2⟩
  ·exact⟨ae.trans be.symm,fun h=>absurd (ae.symm.trans h) a0⟩
  ·exact absurd b0 a0
  ·exact absurd a0 b0
  ·obtain⟨rfl,rfl,rfl⟩:=Gn hy hy2;rcases h with⟨a1,ae⟩|⟨a1,ae,ax⟩<;>rcases h2 with⟨b1,be⟩|⟨b1,be,bx⟩
   ·exact⟨ae.trans be.symm,fun h=>absurd (ae.symm.trans h) a1⟩
   ·exact absurd b1 a1
   ·exact absurd a1 b1
   ·have e:er=TN:=ae.trans be.symm;exact⟨e,fun h=>(ax h).trans (bx (e▸h)).symm⟩
theorem Ll {ps:List ByteArray}{x:iU}(h:oO ps 0 x):iK x=0∧rJ ps∧∃n d n2 d2,lW (pt ps 5) n d 0∧lW (pt ps 6) n2 d2 0∧x=Nc 1000001 ps n d n2 d2:=by
 rcases h with⟨h0,he⟩|⟨h0,n,d,e1,hx,⟨h1,he⟩|⟨rfl,n2,d2,e2,hy,⟨h2,he⟩|⟨rfl,he,h⟩⟩⟩
 ·omega
 ·exact absurd he.symm h1
 ·exact absurd he.symm h2
 ·have:=h rfl;exact⟨by rw[this];exact he.symm,h0,n,d,n2,d2,hx,hy,this⟩
def PF:List ByteArray→Int→Int→Int→List iU→Prop
 | [],_,_,_,_=>False
 | [t],i,er,pos,l=>(t.size=0∧er=0∧pos=0∧l=[])∨(t.size≠0∧er=170∧pos=i)
 |t::u::r,i,er,pos,l=>∃e1 x,oO (eF 9 t) e1 x∧((e1≠0∧er=e1∧pos=i)∨(e1=0∧∃l',PF (u::r) (i+1) er pos l'∧(er=0→l=x::l')))
theorem XU:∀(ts:List ByteArray) (i:Int) {er pos TN LJ:Int} {l l2:List iU},PF ts i er pos l→PF ts i TN LJ l2→er=TN∧pos=LJ∧(er=0→l=l2)
 | [],_,_,_,_,_,_,_,h,_=>h.elim
 | [t],i,er,pos,TN,LJ,l,l2,h,h2=>by
  rcases h with⟨h0,rfl,rfl,rfl⟩|⟨h0,rfl,rfl⟩<;>rcases h2 with⟨k0,rfl,rfl,rfl⟩|⟨k0,rfl,rfl⟩
  ·exact⟨rfl,rfl,fun _=>rfl⟩
  ·exact absurd h0 k0
  ·exact absurd k0 h0
  ·exact⟨rfl,rfl,fun h=>absurd h (by decide)⟩
 |t::u::r,i,er,pos,TN,LJ,l,l2,h,h2=>by
  obtain⟨e1,x,hx,h⟩:=h;obtain⟨e2,x2,hx2,h2⟩:=h2;obtain⟨rfl,hxx⟩:=Lm hx hx2;rcases h with⟨h0,rfl,rfl⟩|⟨h0,l',hp,hl⟩<;>rcases h2 with⟨k0,rfl,rfl⟩|⟨k0,l2',hp2,hl2⟩
  ·exact⟨rfl,rfl,fun h=>absurd h h0⟩
  ·exact absurd k0 h0
  ·exact absurd h0 k0
  ·obtain⟨rfl,rfl,hll⟩:=XU (u::r) (i+1) hp hp2;refine⟨rfl,rfl,fun h=>?_⟩;rw[hl h,hl2 h,hxx h0,hll h]
def oP (s:ByteArray)(er pos:Int)(l:List iU):Prop:=
 ((65536<s.size∨4097<(eF 10 s).length)∧er=4∧pos=0∧l=[])∨
 (s.size≤65536∧(eF 10 s).length≤4097∧∃l',PF (eF 10 s) 0 er pos l'∧l=if er=0 then l' else[])
theorem BF {s:ByteArray}{er pos TN LJ:Int}{l l2:List iU}(h:oP s er pos l)(h2:oP s TN LJ l2):er=TN∧pos=LJ∧l=l2:=by
 rcases h with⟨h0,rfl,rfl,rfl⟩|⟨h0,h1,l',hp,hl⟩<;>rcases h2 with⟨k0,rfl,rfl,rfl⟩|⟨k0,k1,l2',hp2,hl2⟩
 ·exact⟨rfl,rfl,rfl⟩
 ·omega
 ·omega
 ·obtain⟨rfl,rfl,hll⟩:=XU _ _ hp hp2;refine⟨rfl,rfl,?_⟩;rw[hl,hl2]
  by_cases he:er=0
  ·rw[if_pos he,if_pos he,hll he]
  ·rw[if_neg he,if_neg he]
end Go.Proofs.YthbdjmopolpjmaaGreatDoor.C
