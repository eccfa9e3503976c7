/- Part 14 of the proof. -/
import Derived.StillTailTactics
import Derived.Test.YthbdjmopolpjmaaGreatDoorK13
set_option linter.unusedVariables false
set_option linter.unusedSimpArgs false
set_option maxHeartbeats 8000000
set_option maxRecDepth 100000
namespace Go.Proofs.YthbdjmopolpjmaaGreatDoor.C
open Go.RowKit Go.Proofs.YthbdjmopolpjmaaGreatDoorW.PrintWords Go.Proofs.YthbdjmopolpjmaaGreatDoorW.PrintLast Go.Proofs.YthbdjmopolpjmaaGreatDoorW.PrintMore Go.Proofs.YthbdjmopolpjmaaGreatDoor.F Go.Proofs.YthbdjmopolpjmaaGreatDoor.M
attribute [local go_sem] max2_int min2_int max_two min_two max_three min_three max_four min_four
def Rw (W:World)(base g n c:Nat)(xs:List Int):Prop:=xs.length=n∧base≤g∧g<W.heap.size∧Kd.R (Kd.int .u32) 131 W base (fun k=>k=g) (.slice (some ⟨g,0,none⟩) n c) xs
theorem Rw.keep {W W1:World}{base g n c:Nat}{xs:List Int}(h:Rw W base g n c xs)(hs:W.heap.size≤W1.heap.size)(hg:W1.heap[g]?=W.heap[g]?):Rw W1 base g n c xs:=
 ⟨h.1,h.2.1,Nat.lt_of_lt_of_le h.2.2.1 hs,Kd.ui h.2.2.2 (fun k hk _=>by subst hk;exact hg)⟩
theorem Rw.below {W W1:World}{base g n c:Nat}{xs:List Int}(h:Rw W base g n c xs)(hb:Below W.heap.size W W1):Rw W1 base g n c xs:=h.keep hb.size (hb.block g h.2.2.1)
theorem Rw.cell {W:World}{base g n c:Nat}{xs:List Int}(h:Rw W base g n c xs)(i:Int)(h0:0≤i)(h1:i<n):W.cell? ⟨g,i.toNat,none⟩=some (.int .u32 (rd xs i))∧W.frozen? ⟨g,i.toNat,none⟩=false:=Kd.fE (0:Int) h.2.2.2 i h0 h1
theorem Rw.put {W:World}{base g n c:Nat}{xs:List Int}(h:Rw W base g n c xs)(i v:Int):Rw (W.setCell ⟨g,i.toNat,none⟩ (.int .u32 v)) base g n c (xs.set i.toNat v):=
 ⟨by rw[List.length_set];exact h.1,h.2.1,by simpa using h.2.2.1,Kd.Ig h.2.2.2 i v⟩
theorem aao (W:World)(base n:Nat)(hb:base≤W.heap.size)(hm:n≤9223372036854775807):Rw (W.alloc (.cells (madeCells #[.int .u32 0] n) 131)) base W.heap.size n n (List.replicate n 0):=by
 refine⟨by simp,hb,by simp,Kd.iR ?_ (fun k hk=>by simpa[Value.ownBlock]using hk.symm)⟩;have h:=Em W base 131 .u32 n hb hm;rw[List.length_replicate];exact h
theorem Rw.U {W:World}{base g n c:Nat}{xs:List Int}(h:Rw W base g n c xs):U W (some ⟨g,0,none⟩) xs∧n≤c:=by
 obtain⟨A,c2,e,hc,hU⟩:=U.E5 h.2.2.2;injection e with e1 e2 e3;subst e1 e3;exact⟨hU,by rw[e2];exact hc⟩
structure In3 (r0 ys r:List Int)(i k:Nat)(a c:Int):Prop where
 len:r.length=r0.length
 Qk:gV 4294967296 r
 c0:0≤c
 c1:c<4294967296
 sum:val 4294967296 r+c*4294967296^(i+k)=val 4294967296 r0+a*4294967296^i*val 4294967296 (ys.take k)
 top:∀j:Nat,i+ys.length≤j→rd r (j:Int)=0
theorem vK {r:List Int}{i j:Nat}{v:Int}(h:i≠j):rd (r.set i v) (j:Int)=rd r (j:Int):=by
 simp[rd,List.getElem?_set_ne h]
theorem In3.step {r0 ys r:List Int}{i k:Nat}{a c:Int}(h:In3 r0 ys r i k a c)(hd:gV 4294967296 ys)(a0:0≤a)(a1:a<4294967296)(hk:k<ys.length)(hl:i+ys.length≤r0.length):
  In3 r0 ys (r.set (i+k) ((c+(a*rd ys (k:Int)+rd r ((i+k:Nat):Int)))%4294967296)) i (k+1) a ((c+(a*rd ys (k:Int)+rd r ((i+k:Nat):Int)))/4294967296)∧
  (c+(a*rd ys (k:Int)+rd r ((i+k:Nat):Int)))<18446744073709551616∧0≤a*rd ys (k:Int)∧a*rd ys (k:Int)<18446744073709551616∧0≤rd r ((i+k:Nat):Int)∧rd r ((i+k:Nat):Int)<4294967296∧a*rd ys (k:Int)+rd r ((i+k:Nat):Int)<18446744073709551616:=by
 have hik:i+k<r.length:=by have:=h.len;omega
 obtain⟨y0,y1⟩:=gG hd (k:Int) (by omega);obtain⟨r0',r1'⟩:=gG h.Qk ((i+k:Nat):Int) (by omega);have p0:0≤a*rd ys (k:Int):=Int.mul_nonneg a0 y0;have p1:a*rd ys (k:Int)≤4294967295*4294967295:=Int.mul_le_mul (by omega) (by omega) y0 (by omega);have hc0:=h.c0;have hc1:=h.c1;have hsum:=h.sum;generalize hp:a*rd ys (k:Int)=p at *;generalize hq:rd r ((i+k:Nat):Int)=q at *;obtain⟨s,hs⟩:∃s,c+(p+q)=s:=⟨_,rfl⟩;rw[hs];refine⟨⟨by rw[List.length_set];exact h.len,jF h.Qk _ ⟨by omega,by omega⟩,by omega,by omega,?_,fun j hj=>?_⟩,by omega,by omega,by omega,by omega,by omega,by omega⟩
 ·rw[tu _ _ _ _ hik,hq,dP _ _ _ hk];have e:s%4294967296=s- 4294967296*(s/4294967296):=by omega
  rw[e,←Nat.add_assoc,Int.pow_succ];generalize hB:(4294967296:Int)^(i+k)=B at *;have hB2:(4294967296:Int)^i*4294967296^k=B:=by rw[←Int.pow_add];exact hB
  have e1:(s- 4294967296*(s/4294967296)- q)*B+s/4294967296*(B*4294967296)=(s- q)*B:=by
   have:s/4294967296*(B*4294967296)=(4294967296*(s/4294967296))*B:=by rw[Int.mul_comm B,←Int.mul_assoc,Int.mul_comm (s/4294967296)]
   rw[this,←Int.add_mul]
   congr 1
   omega
  have e2:s- q=c+p:=by omega
  have e3:a*4294967296^i*(val 4294967296 (ys.take k)+4294967296^k*rd ys (k:Int))=a*4294967296^i*val 4294967296 (ys.take k)+p*B:=by
   rw[Int.mul_add,←hB2,←hp]
   congr 1
   simp only[Int.mul_assoc,Int.mul_comm,Int.mul_left_comm]
  rw[e3,←Int.add_assoc,←hsum,Int.add_assoc,e1,e2,Int.add_mul];omega
 ·rw[vK (by omega)];exact h.top j hj
theorem In3.start {r0 ys:List Int}{i:Nat}{a:Int}(hd:gV 4294967296 r0)(ht:∀j:Nat,i+ys.length≤j→rd r0 (j:Int)=0):In3 r0 ys r0 i 0 a 0:=
 ⟨rfl,hd,by omega,by omega,by simp[val],ht⟩
structure NG (xs ys r:List Int)(i:Nat):Prop where
 len:r.length=xs.length+ys.length
 Qk:gV 4294967296 r
 sum:val 4294967296 r=val 4294967296 (xs.take i)*val 4294967296 ys
 top:∀j:Nat,i+ys.length≤j→rd r (j:Int)=0
theorem NG.start (xs ys:List Int):NG xs ys (List.replicate (xs.length+ys.length) 0) 0:=
 ⟨by simp,jA (by omega) _,by rw[nM];simp[val],fun j _=>by simp[rd,List.getElem?_replicate];split<;>simp⟩
theorem NG.step {xs ys r0 r:List Int}{i:Nat}{c:Int}(h0:NG xs ys r0 i)(h:In3 r0 ys r i ys.length (rd xs (i:Int)) c)(hi:i<xs.length):NG xs ys (r.set (i+ys.length) c) (i+1):=by
 have hl:i+ys.length<r.length:=by have:=h.len;have:=h0.len;omega
 refine⟨by rw[List.length_set,h.len,h0.len],jF h.Qk _ ⟨h.c0,h.c1⟩,?_,fun j hj=>?_⟩
 ·have hs:=h.sum;rw[List.take_length,h0.sum]at hs;rw[tu _ _ _ _ hl,h.top _ (Nat.le_refl _),Int.sub_zero,hs,dP _ _ _ hi,Int.add_mul]
  congr 2
  rw[Int.mul_comm]
 ·rw[vK (by omega)];exact h.top j (by omega)
theorem aag {ps r:List Int}{n:Nat}(hw:Wd ps)(hd:gV 4294967296 r)(hv:val 4294967296 ps=val 4294967296 r)(hn:r.length≤n):ps.length≤n:=by
 rcases Nat.lt_or_ge n ps.length with h|h
 ·have h1:=ku (B:=4294967296) (by omega) hd hw.1 hw.2.1 (show r.length<ps.length by omega);omega
 ·exact h
theorem pU (gz gx ox gy oy:Nat)(nx ny:Bool)(xs ys:List Int)(w:World)(v0 v1:Value)(hz:w.heap[gz]?=some (.cells #[v0,v1] 173 (0,0)))(hx:rH w gx ox nx xs)(hy:rH w gy oy ny ys)(wx:Wd xs)(wy:Wd ys)(hl:xs.length+ys.length≤1000000):
  Calls Tryz.prog 225 #[.pointer (some ⟨gz,0,none⟩),.pointer (some ⟨gx,ox,none⟩),.pointer (some ⟨gy,oy,none⟩)] w fun e w'=>∃ps,e= .returned (.pointer (some ⟨gz,0,none⟩))∧iy w' gz (nx !=ny&& !ps.isEmpty) ps∧Wd ps∧val 4294967296 ps=val 4294967296 xs*val 4294967296 ys∧ps.length≤xs.length+ys.length∧gm (·=gz) w w':=by
 obtain⟨A,c,hx0,hx1,hcx,hU⟩:=hx;obtain⟨B,d,hy0,hy1,hcy,hV⟩:=hy;have HZ:=zM hz;have HU:=zM (zA hU (zA hV (zA hcx hcy)));have HW:=zM (zA wx (zA wy hl));have HX:=zM (zA hx0 (zA hx1 (zA hy0 hy1)));have hn0:¬((xs.length:Int)+ys.length<0):=by omega
 clear hU hV hz wx wy hl hcx hcy;obtain⟨N,hN⟩:∃N,xs.length+ys.length=N:=⟨_,rfl⟩;have hwd:(xs.length:Int)+ys.length=(N:Int):=by omega
 have hmk:=pX (P:=Tryz.prog) 171 131 .u32 4 Tryz.underlying171 kQ (by decide) N (by have:=HW.out.2.2;omega);have HN:=zM hN;clear hN;go_enter Tryz.func225,Tryz.ntmps225;go_upto_region 1 with(fail);go_still_tail 11,(by kernel_rfl)
 change wpList _ _ _ _ _ w.drew
 have hdr:Below w.heap.size w w.drew:=dB (Below.refl _ _);have hmd:=aao w.drew w.heap.size N (Nat.le_refl _) (by have:=HW.out.2.2;have:=HN.out;omega);have hBm:Below w.heap.size w (w.drew.alloc (.cells (madeCells #[.int .u32 0] N) 131)):=ag hdr _;have hy2:(w.alloc (.cells (madeCells #[.int .u32 0] N) 131)).cell? ⟨gx,ox+1,none⟩=some (.slice A xs.length c):=aI hBm hx1;have HM:=zM (zA hmd hBm);have hlx:xs.length≤1000000:=by have:=HW.out.2.2;omega
 have hly:ys.length≤1000000:=by have:=HW.out.2.2;omega
 clear hdr hmd hBm;go_wp2_with fail;clear hmk hwd hn0 hy2 hx0 hx1 hy0 hy1;go_loopg [30] xs.length (fun kq v30 W=>∃i:Int,v30= .int .i64 i∧Aside0 (0≤i∧i≤xs.length∧xs.length≤i+kq∧Below w.heap.size w W∧∃r,NG xs ys r i.toNat∧Rw W w.heap.size w.heap.size N N r))
 case atStart=>exact⟨0,rfl,⟨by omega,by omega,by omega,HM.out.2,_,by rw[←HN.out];exact NG.start xs ys,HM.out.1⟩⟩
 case round=>
  obtain⟨i,rfl,HJ⟩:=hrel
  by_cases hi:i<xs.length
  ·obtain⟨ad8,e8,htc⟩:=Kd.dM (HU.out.1.below HJ.out.2.2.2.1).now i HJ.out.1 hi;cases e8;have hdd:=zT hi;have hy1:=aI HJ.out.2.2.2.1 HX.out.2.2.2;have p0:=eq_true HJ.out.1;have p1:=eq_true hi;obtain⟨k1,rfl⟩:∃k1,gk=k1+1:=⟨gk- 1,by have:=HJ.out.2.2.1;omega⟩;have HI:=zM hi;obtain⟨r0,hO,hR⟩:=HJ.out.2.2.2.2;have HO:=zM (zA hO hR);clear hi hO hR;go_wp2_with fail;clear htc;obtain⟨a,ha⟩:∃a,rd xs i=a:=⟨_,rfl⟩;have HA:=zM ha;rw[ha];clear ha;have hin:(i.toNat:Int)=i:=Int.toNat_of_nonneg HJ.out.1;have Ud:=zM hin;clear hin;go_loopg [10,40] ys.length (fun kq v10 v40 W=>∃(k:Int) (c:Int),v10= .int .u64 c∧v40= .int .i64 k∧Aside0 (0≤k∧k≤ys.length∧ys.length≤k+kq∧Below w.heap.size w W∧∃r,In3 r0 ys r i.toNat k.toNat a c∧Rw W w.heap.size w.heap.size N N r))
   case atStart=>exact⟨0,0,rfl,rfl,⟨by omega,by omega,by omega,HJ.out.2.2.2.1,r0,In3.start HO.out.1.Qk HO.out.1.top,HO.out.2⟩⟩
   case round=>
    obtain⟨k,cc,rfl,rfl,HK⟩:=hrel;obtain⟨r,hI,hR⟩:=HK.out.2.2.2.2
    by_cases hk:k<ys.length
    ·obtain⟨ad9,e9,htc⟩:=Kd.dM (HU.out.2.1.below HK.out.2.2.2.1).now k HK.out.1 hk;cases e9;have hdk:=zT hk;have q0:=eq_true HK.out.1;have q1:=eq_true hk;have hkn:(k.toNat:Int)=k:=Int.toNat_of_nonneg HK.out.1;have a01:0≤a∧a<4294967296:=by rw[←HA.out];exact gG HW.out.1.1 i (by have:=HI.out;have:=HJ.out.1;omega)
     obtain⟨hI2,s1,s2,s3,s4,s5,s6⟩:=hI.step HW.out.2.1.1 a01.1 a01.2 (by omega) (by have:=HO.out.1.len;have:=HI.out;have:=HJ.out.1;omega);have eik:((i.toNat+k.toNat:Nat):Int)=i+k:=by have:=Ud.out;omega
     have agx:i.toNat+k.toNat=(i+k).toNat:=by omega
     simp only[eik,hkn]at hI2 s1 s2 s3 s4 s5 s6;rw[agx]at hI2;clear eik agx hkn;have hNl:i+k<N:=by have:=HN.out;have:=HI.out;omega
     obtain⟨hc1,hf1⟩:=hR.cell (i+k) (by have:=HJ.out.1;have:=HK.out.1;omega) hNl;have hR2:=hR.put (i+k) ((cc+(a*rd ys k+rd r (i+k)))%4294967296);have z0:=eq_true (show 0≤i+k by have:=HJ.out.1;have:=HK.out.1;omega);have z1:=eq_true hNl;have hw1:wrap64 (i+k)=i+k:=fD (by have:=HJ.out.1;have:=HK.out.1;omega) (by have:=HN.out;have:=HW.out.2.2;omega);have mu1:IntKind.u64.wrap (rd ys k)=rd ys k:=M.u64 (gG HW.out.2.1.1 k (by have:=HK.out.1;omega)).1 (by have:=(gG HW.out.2.1.1 k (by have:=HK.out.1;omega)).2;omega);have mu2:IntKind.u64.wrap (a*rd ys k)=a*rd ys k:=M.u64 s2 s3;have mu3:IntKind.u64.wrap (a*rd ys k+rd r (i+k))=a*rd ys k+rd r (i+k):=M.u64 (by omega) s6;have mu4:IntKind.u64.wrap (cc+(a*rd ys k+rd r (i+k)))=cc+(a*rd ys k+rd r (i+k)):=M.u64 (by have:=hI.c0;omega) s1;obtain⟨k2,rfl⟩:∃k2,gk=k2+1:=⟨gk- 1,by have:=HK.out.2.2.1;omega⟩;have HI2:=zM (zA hI2 (zA hR2 hk));have hset:∃w2,wr.setCell ⟨w.heap.size,(i+k).toNat,none⟩ (.int .u32 ((cc+(a*rd ys k+rd r (i+k)))%4294967296))=w2:=⟨_,rfl⟩;have hBs:Below w.heap.size w (wr.setCell ⟨w.heap.size,(i+k).toNat,none⟩ (.int .u32 ((cc+(a*rd ys k+rd r (i+k)))%4294967296))):=HK.out.2.2.2.1.setCell (Nat.le_refl _) _;obtain⟨w2,hw2⟩:=hset;rw[hw2]at HI2 hBs;have HB2:=zM hBs;clear hI2 hR2 hI hR hNl hk s1 s2 s3 s6 hBs;go_wp2_with fail;go_roundg k2
     case measure=>omega
     case rel=>exact⟨k+1,_,rfl,congrArg (Value.int .i64) (fD (by have:=HK.out.1;omega) (by have:=HI2.out.2.2;have:=HW.out.2.2;omega)),⟨by have:=HK.out.1;omega,by have:=HI2.out.2.2;omega,by have:=HK.out.2.2.1;omega,HB2.out,_,by rw[show(k+1).toNat=k.toNat+1 by have:=HK.out.1;omega];exact HI2.out.1,HI2.out.2.1⟩⟩
    ·have hdk:=zF hk;have hkn:k.toNat=ys.length:=by have:=HK.out.2.1;have:=HK.out.1;omega
     rw[hkn]at hI;have hNl:i+ys.length<N:=by have:=HN.out;have:=HI.out;omega
     have hil:((i.toNat+ys.length:Nat):Int)=i+ys.length:=by have:=Ud.out;omega
     obtain⟨hc1,hf1⟩:=hR.cell (i+ys.length) (by have:=HJ.out.1;omega) hNl;have hR2:=hR.put (i+ys.length) cc;have hO2:=HO.out.1.step (by rw[Ud.out,HA.out];exact hI) (by have:=HI.out;have:=HJ.out.1;omega);rw[show i.toNat+ys.length=(i+ys.length).toNat by have:=Ud.out;omega]at hO2;have z0:=eq_true (show 0≤i+ys.length by have:=HJ.out.1;omega);have z1:=eq_true hNl;have hw1:wrap64 (i+ys.length)=i+ys.length:=fD (by have:=HJ.out.1;omega) (by have:=HN.out;have:=HW.out.2.2;omega);have hcc:cc%4294967296=cc:=Int.emod_eq_of_lt hI.c0 hI.c1;have hy1:=aI HK.out.2.2.2.1 HX.out.2.2.2;have hBs:Below w.heap.size w (wr.setCell ⟨w.heap.size,(i+ys.length).toNat,none⟩ (.int .u32 cc)):=HK.out.2.2.2.1.setCell (Nat.le_refl _) _;obtain⟨w2,hw2⟩:∃w2,wr.setCell ⟨w.heap.size,(i+ys.length).toNat,none⟩ (.int .u32 cc)=w2:=⟨_,rfl⟩;rw[hw2]at hR2 hBs;have HI2:=zM (zA hO2 (zA hR2 hBs));clear hO2 hR2 hBs hI hR hk hkn hil hNl;go_wp2_with fail;go_roundg k1
     case measure=>omega
     case rel=>exact⟨i+1,congrArg (Value.int .i64) (fD (by have:=HJ.out.1;omega) (by have:=HI.out;omega)),⟨by have:=HJ.out.1;omega,by have:=HI.out;omega,by have:=HJ.out.2.2.1;omega,HI2.out.2.2,_,by rw[show(i+1).toNat=i.toNat+1 by have:=HJ.out.1;omega];exact HI2.out.1,HI2.out.2.1⟩⟩
  ·have hdd:=zF hi;have hin:i.toNat=xs.length:=by have:=HJ.out.2.1;have:=HJ.out.1;omega
   obtain⟨r,hO,hR⟩:=HJ.out.2.2.2.2;rw[hin]at hO;have hx0:=aI HJ.out.2.2.2.1 HX.out.1;have hy0:=aI HJ.out.2.2.2.1 HX.out.2.2.1;have HO:=zM (zA hO hR);clear hO hR hi hin;go_upto_region 15 with(fail);go_still_tail 11,(by kernel_rfl)
   change wpList _ _ _ _ _ wr.drew
   have hdr:Below w.heap.size w wr.drew:=ah HJ.out.2.2.2.1 HJ.out.2.2.2.1.size (dB (Below.refl _ _));obtain⟨hUr,hNc⟩:=(HO.out.2.below (dB (Below.refl wr.heap.size wr))).U;have hz2:=(hdr.block gz (dV HZ.out)).trans HZ.out;obtain⟨ps,wps,hvp,hc⟩:=Dh gz (nx !=ny) (some ⟨w.heap.size,0,none⟩) N r wr.drew v0 v1 hz2 hUr (by have:=HO.out.2.1;omega) HO.out.1.Qk (by have:=HO.out.2.1;have:=HN.out;have:=HW.out.2.2;omega);have HP:=zM (zA wps (zA hvp hdr));rw[HO.out.2.1]at hc;clear wps hvp hdr hz2 hUr hNc;go_wp2_with fail;refine hc.mono ?_;rintro e w' ⟨rfl,hI,hch⟩;have HI:=zM (zA hI hch);clear hI hch hc;go_wp2_with fail;go_ret;refine⟨ps,rfl,HI.out.1,HP.out.1,?_,?_,gm.dU HP.out.2.2 HI.out.2⟩
   ·rw[HP.out.2.1,HO.out.1.sum,List.take_length]
   ·exact aag HP.out.1 HO.out.1.Qk HP.out.2.1 (Nat.le_of_eq HO.out.1.len)
theorem and1 {x:Int}(h0:0≤x)(h1:x<18446744073709551616):Go.bits .and .u64 x 1=x%2:=
 bits_mask .u64 64 (by decide) (fun n h0 h1=>by rw[IntKind.wrap_u64];omega) 1 (by decide) x h0 (by omega)
def sw (n:Nat):List Int:=if n=0 then[]else[(n:Int)]
theorem UO (g:Nat)(n i:Nat)(w:World)(h:iy w g false (sw n))(hn:0<n)(hl:n<4294967296)(hi:i<32):
  Calls Tryz.prog 247 #[.pointer (some ⟨g,0,none⟩),.int .i64 (i:Int)] w fun e w'=>e= .returned (.int .u64 ((n/2^i%2:Nat):Int))∧Below w.heap.size w w':=by
 obtain⟨A,c,hx0,hx1,hc,hU⟩:=h.c;rw[show sw n=[(n:Int)]from if_neg (by omega)]at hx1 hU hc;obtain⟨ad,e,hcell⟩:=Kd.dM hU.now 0 (by omega) (by simp);cases e;have hrd:rd [(n:Int)] 0=n:=rfl;rw[hrd]at hcell
 have hd:Int.tdiv (i:Int) 32=0:=by
  rw[Int.tdiv_eq_ediv_of_nonneg (by omega)];omega
 have hm:Int.tmod (i:Int) 32=i:=by
  rw[Int.tmod_eq_emod_of_nonneg (by omega)];omega
 have h0:decide ((i:Int)<0)=false:=decide_eq_false (by omega)
 replace hcell:w.cell? ad=some (.int .u32 (n:Int)):=by
  have:ad.add (0:Int).toNat=ad:=rfl;rw[this]at hcell;exact hcell
 clear hx0 hU hc hrd h
 have hsh:(n:Int)/2^i=((n/2^i:Nat):Int):=by
  rw[Int.natCast_ediv]
  congr 1
 have hlt:n/2^i<4294967296:=Nat.lt_of_le_of_lt (Nat.div_le_self _ _) hl
 have hw:IntKind.u64.wrap ((n/2^i:Nat):Int)=((n/2^i:Nat):Int):=by
  generalize n/2^i=q at *;exact M.u64 (by omega) (by omega)
 have hand:Go.bits .and .u64 ((n/2^i:Nat):Int) 1=((n/2^i%2:Nat):Int):=by
  generalize n/2^i=q at *;rw[and1 (by omega) (by omega)];omega
 have HS:=zM (zA hsh (zA hw hand));clear hsh hw hand hlt;go_enter Tryz.func247,Tryz.ntmps247;go_wp2_with fail;go_ret;refine⟨?_,Below.refl _ _⟩
 show Ending.returned (.int .u64 (bits BinOp.and IntKind.u64 (IntKind.u64.wrap ((n:Int)/2^i)) 1))=_
 rw[HS.out.1,HS.out.2.1,HS.out.2.2]
theorem uu (g:Nat)(n:Nat)(w:World)(h:iy w g false (sw n))(hl:n<4294967296):
  Calls Tryz.prog 246 #[.pointer (some ⟨g,0,none⟩)] w fun e w'=>e= .returned (.int .i64 (Lib.bitLen n:Int))∧Below w.heap.size w w':=by
 obtain⟨A,c,hx0,hx1,hc,hU⟩:=h.c
 by_cases hn:n=0
 ·subst hn;rw[show sw 0=[]from rfl]at hx1;have h0:(((0:Nat):Int)==0)=true:=rfl;simp only[List.length_nil]at hx1;clear hx0 hU hc h;go_enter Tryz.func246,Tryz.ntmps246;go_wp2_with fail;go_ret;exact⟨rfl,Below.refl _ _⟩
 ·rw[show sw n=[(n:Int)]from if_neg hn]at hx1 hU hc;obtain⟨ad,e,hcell⟩:=Kd.dM hU.now 0 (by omega) (by simp);cases e;have hrd:rd [(n:Int)] 0=n:=rfl;rw[hrd]at hcell
  replace hcell:w.cell? ad=some (.int .u32 (n:Int)):=by
   have:ad.add (0:Int).toNat=ad:=rfl;rw[this]at hcell;exact hcell
  have hcd:w.drew.cell? ad=some (.int .u32 (n:Int)):=hcell;have hwz:IntKind.i64.wrap 0=0:=rfl;have hbl:Lib.bitLen n≤32:=Lib.bitLen_le n 32 (by omega) (by omega);have HB:=zM hbl;clear hx0 hU hc hrd h;go_enter Tryz.func246,Tryz.ntmps246;go_upto_region 3 with(fail);go_quiet (first|(go_at_call 103;refine(Tryz.bits_Len32 n _ (by omega) (by omega)).mono ?_;rintro e w2 ⟨rfl,rfl⟩;rw[Int.toNat_natCast];(try first|exact⟨rfl,_,rfl⟩)));go_wp2_with fail;go_ret;exact⟨rfl,ai (Below.refl _ _) nq⟩
theorem wI {n:Nat}(h0:0<n)(hl:n<4294967296):1≤Lib.bitLen n∧2^(Lib.bitLen n- 1)≤n∧n<2^Lib.bitLen n:=Lib.bitLenAux_bounds 64 n (by omega) (by omega)
structure Ex (X:Int)(L n bl i:Nat)(os bs:List Int):Prop where
 wo:Wd os
 vo:val 4294967296 os=X^(n%2^i)
 lo:os.length≤n%2^i*L+1
 wb:Wd bs
 vb:val 4294967296 bs=X^(2^min i (bl- 1))
 lb:bs.length≤2^min i (bl- 1)*L
theorem Ex.mul {X:Int}{L n bl i:Nat}{os bs ps:List Int}(h:Ex X L n bl i os bs)(hi:i<bl)(hb:n/2^i%2=1)(wp:Wd ps)(hv:val 4294967296 ps=val 4294967296 os*val 4294967296 bs)(hl:ps.length≤os.length+bs.length):
  Wd ps∧val 4294967296 ps=X^(n%2^(i+1))∧ps.length≤n%2^(i+1)*L+1:=by
 have e:n%2^(i+1)=n%2^i+2^i:=by rw[Nat.mod_pow_succ,hb,Nat.mul_one]
 have hm:min i (bl- 1)=i:=by omega
 have h1:=h.vb;have h2:=h.lb;have h3:=h.lo;rw[hm]at h1 h2;refine⟨wp,by rw[hv,h.vo,h1,e,Int.pow_add],?_⟩;rw[e,Nat.add_mul];omega
theorem Ex.skip {X:Int}{L n bl i:Nat}{os bs:List Int}(h:Ex X L n bl i os bs)(hb:¬n/2^i%2=1):
  Wd os∧val 4294967296 os=X^(n%2^(i+1))∧os.length≤n%2^(i+1)*L+1:=by
 have e:n%2^(i+1)=n%2^i:=by rw[Nat.mod_pow_succ,show n/2^i%2=0 by omega,Nat.mul_zero,Nat.add_zero]
 rw[e];exact⟨h.wo,h.vo,h.lo⟩
theorem Ex.square {X:Int}{L n bl i:Nat}{os bs ps qs:List Int}(h:Ex X L n bl i os bs)(hi:i+1<bl)(ho:Wd ps∧val 4294967296 ps=X^(n%2^(i+1))∧ps.length≤n%2^(i+1)*L+1)(wq:Wd qs)(hv:val 4294967296 qs=val 4294967296 bs*val 4294967296 bs)(hl:qs.length≤bs.length+bs.length):Ex X L n bl (i+1) ps qs:=by
 have hm:min i (bl- 1)=i:=by omega
 have hm2:min (i+1) (bl- 1)=i+1:=by omega
 have h1:=h.vb;have h2:=h.lb;rw[hm]at h1 h2;refine⟨ho.1,ho.2.1,ho.2.2,wq,?_,?_⟩
 ·rw[hm2,hv,h1,←Int.pow_add,Nat.pow_succ,Nat.mul_two]
 ·rw[hm2,Nat.pow_succ,Nat.mul_two,Nat.add_mul];omega
theorem Ex.last {X:Int}{L n bl i:Nat}{os bs ps:List Int}(h:Ex X L n bl i os bs)(hi:¬i+1<bl)(hi2:i<bl)(ho:Wd ps∧val 4294967296 ps=X^(n%2^(i+1))∧ps.length≤n%2^(i+1)*L+1):Ex X L n bl (i+1) ps bs:=by
 have hm:min i (bl- 1)=min (i+1) (bl- 1):=by omega
 have h1:=h.vb;have h2:=h.lb;rw[hm]at h1 h2;exact⟨ho.1,ho.2.1,ho.2.2,h.wb,h1,h2⟩
theorem Ex.small {X:Int}{L n bl i:Nat}{os bs:List Int}(h:Ex X L n bl i os bs)(h0:0<n)(hn:n<4294967296)(hbl:bl=Lib.bitLen n):os.length+bs.length≤2*(n*L)+1∧bs.length+bs.length≤2*(n*L):=by
 obtain⟨b1,b2,b3⟩:=wI h0 hn;have h1:n%2^i*L≤n*L:=Nat.mul_le_mul_right _ (Nat.mod_le _ _);have h2:2^min i (bl- 1)≤n:=Nat.le_trans (Nat.pow_le_pow_right (by omega) (Nat.min_le_right _ _)) (by rw[hbl];exact b2);have h3:2^min i (bl- 1)*L≤n*L:=Nat.mul_le_mul_right _ h2;have h4:=h.lo;have h5:=h.lb;omega
theorem iy.aside {W W1:World}{g k:Nat}{neg:Bool}{xs:List Int}{v0 v1:Value}(h:iy W g neg xs)(hk:W.heap[k]?=some (.cells #[v0,v1] 173 (0,0)))(hne:g≠k)(hc:gm (·=k) W W1):iy W1 g neg xs:=
 h.qj hc hne (fun j hj _=>by subst hj;exact Ha hk (by decide))
theorem iy.two {W:World}{g:Nat}{neg:Bool}{xs:List Int}(h:iy W g neg xs):∃v0 v1,W.heap[g]?=some (.cells #[v0,v1] 173 (0,0)):=by
 obtain⟨A,c,hb,_⟩:=h;exact⟨_,_,hb⟩
theorem Below.qj {w W W1:World}{g:Nat}(h0:Below w.heap.size w W)(h:gm (·=g) W W1)(hb:w.heap.size≤g):Below w.heap.size w W1:=
 h0.trans ⟨h.os,h.tape,h.output,h.size,fun i hi=>h.block i (Nat.lt_of_lt_of_le hi h0.size) (fun e=>by omega)⟩
theorem Kt (gz gx gy:Nat)(xs:List Int)(n:Nat)(w:World)(v0 v1 v3:Value)(hz:w.heap[gz]?=some (.cells #[v0,v1] 173 (0,0)))(hx:iy w gx false xs)(wx:Wd xs)(hy:iy w gy false (sw n))(hn:n<4294967296)(hl:2*(n*xs.length)+1≤1000000):
  Calls Tryz.prog 227 #[.pointer (some ⟨gz,0,none⟩),.pointer (some ⟨gx,0,none⟩),.pointer (some ⟨gy,0,none⟩),v3] w fun e w'=>∃ps,e= .returned (.pointer (some ⟨gz,0,none⟩))∧iy w' gz false ps∧Wd ps∧val 4294967296 ps=val 4294967296 xs^n∧gm (·=gz) w w':=by
 have HX:=zM (zA hz (zA hx (zA wx (zA hy (zA hn hl)))));clear hz hx wx hy hl;go_enter Tryz.func227,Tryz.ntmps227;go_wp2_with fail;refine(jw 1 _ (by omega) (by omega)).mono ?_;rintro e w1 ⟨go,os,rfl,h1,h2,h3,h4,h5⟩;have HO:=zM (zA h1 (zA h2 (zA h3 (zA h4 h5))));clear h1 h2 h3 h4 h5;go_wp2_with fail;have hA:=ag (Below.refl w1.heap.size w1) (.cells #[.bool false,.slice none 0 0] 173);refine(uP w1.heap.size gx 0 false xs _ _ _ (bZ w1 _) ((HX.out.2.1.below HO.out.2.2.2.2).below hA).c HX.out.2.2.1).mono ?_;rintro e w2 ⟨rfl,h1,h2⟩;have hgo:go<w1.heap.size:=HO.out.2.1.lt;have hIo:iy w2 go false os:=(HO.out.2.1.below hA).aside (bZ w1 _) (by omega) h2;have hB2:Below w.heap.size w w2:=ah HO.out.2.2.2.2 HO.out.2.2.2.2.size ((gm.dU hA h2).below (fun k hk=>by subst hk;exact Nat.le_refl _));have HB:=zM (zA (by simpa using h1) (zA hIo (zA hB2 (zA hgo HO.out.2.2.2.2.size))));clear h1 h2 hA hgo hIo hB2;go_wp2_with fail;refine(uu gy n _ (HX.out.2.2.2.1.below HB.out.2.2.1) hn).mono ?_;rintro e w3 ⟨rfl,hb⟩;have HC:=zM (zA (HB.out.1.below hb) (zA (HB.out.2.1.below hb) (ah HB.out.2.2.1 HB.out.2.2.1.size hb)));clear hb hn;obtain⟨bl,hbl⟩:∃bl,Lib.bitLen n=bl:=⟨_,rfl⟩;have abe:bl≤32:=by rw[←hbl];exact Lib.bitLen_le n 32 (by omega) (by have:=HX.out.2.2.2.2.1;omega)
 have HL:=zM (zA hbl abe)
 have HE0:Ex (val 4294967296 xs) xs.length n bl 0 os xs:=by
  refine⟨HO.out.2.2.1,by rw[HO.out.2.2.2.1,Nat.pow_zero,Nat.mod_one,Int.pow_zero],?_,HX.out.2.2.1,?_,?_⟩
  ·rw[HO.out.2.2.1.inj uS (by rw[HO.out.2.2.2.1,val_one])];exact Nat.le_add_left 1 _
  ·rw[Nat.zero_min,Nat.pow_zero,Int.pow_succ,Int.pow_zero,Int.one_mul]
  ·rw[Nat.zero_min,Nat.pow_zero,Nat.one_mul];exact Nat.le_refl _
 have HE0:=zM HE0;rw[hbl];clear hbl abe;go_wp2_with fail;go_loopg [18] bl (fun kq v18 W=>∃p:Nat,v18= .int .i64 (p:Int)∧Aside0 (p≤bl∧bl≤p+kq∧∃os bs,Ex (val 4294967296 xs) xs.length n bl p os bs∧iy W go false os∧iy W w1.heap.size false bs∧Below w.heap.size w W))
 case atStart=>exact⟨0,rfl,⟨by omega,by omega,os,xs,HE0.out,HC.out.2.1,HC.out.1,HC.out.2.2⟩⟩
 case round=>
  obtain⟨p,rfl,HJ⟩:=hrel;obtain⟨os,bs,h1,h2,h3,h4⟩:=HJ.out.2.2;have HE:=zM (zA h1 (zA h2 (zA h3 h4)));have hbl:=HL.out.1;clear h1 h2 h3 h4
  by_cases hp:p<bl
  ·have hpd:decide (p<bl)=true:=decide_eq_true (by omega)
   have hn0:0<n:=by
    rcases Nat.eq_zero_or_pos n with h|h
    ·rw[←hbl,h]at hp;exact absurd hp (show¬p<Lib.bitLen 0 from Nat.not_lt_zero p)
    ·exact h
   have Nr:=zM (zA hp (zA (zA hn0 HL.out.2) hbl));obtain⟨k1,rfl⟩:∃k1,gk=k1+1:=⟨gk- 1,by have:=HJ.out.2.1;omega⟩;clear hp hn0;go_wp2_with fail;refine(UO gy n p _ (HX.out.2.2.2.1.below HE.out.2.2.2) Nr.out.2.1.1 HX.out.2.2.2.2.1 (by have:=Nr.out;omega)).mono ?_;rintro e w4 ⟨rfl,hb4⟩;have HF:=zM (zA (HE.out.2.1.below hb4) (zA (HE.out.2.2.1.below hb4) (ah HE.out.2.2.2 HE.out.2.2.2.size hb4)));clear hb4
   by_cases hbit:n/2^p%2=1
   ·rw[hbit];have HBT:=zM hbit;clear hbit;go_wp2_with fail;obtain⟨u0,u1,hblk⟩:=HF.out.1.two;refine(pU go go 0 w1.heap.size 0 false false os bs _ u0 u1 hblk HF.out.1.c HF.out.2.1.c HE.out.1.wo HE.out.1.wb (by have:=(HE.out.1.small Nr.out.2.1.1 HX.out.2.2.2.2.1 Nr.out.2.2.symm).1;have:=HX.out.2.2.2.2.2;omega)).mono ?_;rintro e w5 ⟨ps,rfl,h1,h2,h3,h4,h5⟩;have HS:=zM (zA (HE.out.1.mul Nr.out.1 HBT.out h2 h3 h4) (zA (show iy w5 go false ps by simpa using h1) (zA (HF.out.2.1.aside hblk (by have:=HB.out.2.2.2.1;omega) h5) (Below.qj HF.out.2.2 h5 HO.out.1))));clear h1 h2 h3 h4 h5 hblk;go_wp2_with fail;refine(uu gy n _ (HX.out.2.2.2.1.below HS.out.2.2.2) HX.out.2.2.2.2.1).mono ?_;rintro e w6 ⟨rfl,hb6⟩;have JE:=zM (zA (HS.out.2.1.below hb6) (zA (HS.out.2.2.1.below hb6) (ah HS.out.2.2.2 HS.out.2.2.2.size hb6)));clear hb6;rw[hbl];have hpw:wrap64 ((p:Int)+1)=((p+1:Nat):Int):=by rw[fD (by omega) (by have:=Nr.out;omega)];rfl
    by_cases hq:p+1<bl
    ·have hqd:decide ((p:Int)+1<(bl:Int))=true:=decide_eq_true (by omega);have HQ:=zM hq;clear hq;go_wp2_with fail;obtain⟨u0,u1,hblk⟩:=JE.out.2.1.two;refine(pU w1.heap.size w1.heap.size 0 w1.heap.size 0 false false bs bs _ u0 u1 hblk JE.out.2.1.c JE.out.2.1.c HE.out.1.wb HE.out.1.wb (by have:=(HE.out.1.small (by have:=Nr.out;omega) HX.out.2.2.2.2.1 Nr.out.2.2.symm).2;have:=HX.out.2.2.2.2.2;omega)).mono ?_;rintro e w7 ⟨qs,rfl,h1,h2,h3,h4,h5⟩;have HT:=zM (zA (HE.out.1.square HQ.out HS.out.1 h2 h3 h4) (zA (JE.out.1.aside hblk (by have:=HB.out.2.2.2.1;omega) h5) (zA (show iy w7 w1.heap.size false qs by simpa using h1) (Below.qj JE.out.2.2 h5 HB.out.2.2.2.2))));clear h1 h2 h3 h4 h5 hblk;go_wp2_with fail;go_roundg k1
     case measure=>omega
     case rel=>exact⟨p+1,by rw[hpw],⟨by have:=HQ.out;omega,by have:=HJ.out.2.1;omega,_,_,HT.out.1,HT.out.2.1,HT.out.2.2.1,HT.out.2.2.2⟩⟩
    ·have hqd:decide ((p:Int)+1<(bl:Int))=false:=decide_eq_false (by omega);have HT:=zM (HE.out.1.last hq Nr.out.1 HS.out.1);clear hq;go_wp2_with fail;go_roundg k1
     case measure=>omega
     case rel=>exact⟨p+1,by rw[hpw],⟨by have:=Nr.out.1;omega,by have:=HJ.out.2.1;omega,_,_,HT.out,JE.out.1,JE.out.2.1,JE.out.2.2⟩⟩
   ·have abd:n/2^p%2=0:=by omega
    rw[abd];have HS:=zM (zA (HE.out.1.skip hbit) HF.out);clear hbit abd;go_wp2_with fail;refine(uu gy n _ (HX.out.2.2.2.1.below HS.out.2.2.2) HX.out.2.2.2.2.1).mono ?_;rintro e w6 ⟨rfl,hb6⟩;have JE:=zM (zA (HS.out.2.1.below hb6) (zA (HS.out.2.2.1.below hb6) (ah HS.out.2.2.2 HS.out.2.2.2.size hb6)));clear hb6;rw[hbl];have hpw:wrap64 ((p:Int)+1)=((p+1:Nat):Int):=by rw[fD (by omega) (by have:=Nr.out;omega)];rfl
    by_cases hq:p+1<bl
    ·have hqd:decide ((p:Int)+1<(bl:Int))=true:=decide_eq_true (by omega);have HQ:=zM hq;clear hq;go_wp2_with fail;obtain⟨u0,u1,hblk⟩:=JE.out.2.1.two;refine(pU w1.heap.size w1.heap.size 0 w1.heap.size 0 false false bs bs _ u0 u1 hblk JE.out.2.1.c JE.out.2.1.c HE.out.1.wb HE.out.1.wb (by have:=(HE.out.1.small (by have:=Nr.out;omega) HX.out.2.2.2.2.1 Nr.out.2.2.symm).2;have:=HX.out.2.2.2.2.2;omega)).mono ?_;rintro e w7 ⟨qs,rfl,h1,h2,h3,h4,h5⟩;have HT:=zM (zA (HE.out.1.square HQ.out HS.out.1 h2 h3 h4) (zA (JE.out.1.aside hblk (by have:=HB.out.2.2.2.1;omega) h5) (zA (show iy w7 w1.heap.size false qs by simpa using h1) (Below.qj JE.out.2.2 h5 HB.out.2.2.2.2))));clear h1 h2 h3 h4 h5 hblk;go_wp2_with fail;go_roundg k1
     case measure=>omega
     case rel=>exact⟨p+1,by rw[hpw],⟨by have:=HQ.out;omega,by have:=HJ.out.2.1;omega,_,_,HT.out.1,HT.out.2.1,HT.out.2.2.1,HT.out.2.2.2⟩⟩
    ·have hqd:decide ((p:Int)+1<(bl:Int))=false:=decide_eq_false (by omega);have HT:=zM (HE.out.1.last hq Nr.out.1 HS.out.1);clear hq;go_wp2_with fail;go_roundg k1
     case measure=>omega
     case rel=>exact⟨p+1,by rw[hpw],⟨by have:=Nr.out.1;omega,by have:=HJ.out.2.1;omega,_,_,HT.out,JE.out.1,JE.out.2.1,JE.out.2.2⟩⟩
  ·have hpd:decide (p<bl)=false:=decide_eq_false (by omega);have hpe:p=bl:=by have:=HJ.out.1;omega
   have HP:=zM hpe;clear hp hpe;go_wp2_with fail;refine(uP gz go 0 false os _ v0 v1 ((HE.out.2.2.2.block gz (dV HX.out.1)).trans HX.out.1) HE.out.2.1.c HE.out.1.wo).mono ?_;rintro e w8 ⟨rfl,h1,h2⟩;have HI:=zM (zA h1 h2);clear h1 h2;go_wp2_with fail;go_ret;refine⟨os,rfl,by simpa using HI.out.1,HE.out.1.wo,?_,gm.dU HE.out.2.2.2 HI.out.2⟩;rw[HE.out.1.vo,HP.out,←HL.out.1];rcases Nat.eq_zero_or_pos n with h|h
   ·subst h;rfl
   ·rw[Nat.mod_eq_of_lt (wI h HX.out.2.2.2.2.1).2.2]
def nS (s:ByteArray)(neg:Bool)(m:ByteArray)(behind:Nat)(i:Nat):Option Fm:=
 if hits ⟨#[101,69]⟩ s i=true then
  let j:=if hits ⟨#[43,45]⟩ s (i+1)=true then i+2 else i+1
  let dn:=hits ⟨#[43,45]⟩ s (i+1)&&decide (bt s ((i+1:Nat):Int)=45)
  if eG s j=j∨eG s j≠s.size then none else some ⟨neg,m,(behind:Int),s.extract j (eG s j),dn,⟨#[]⟩,false,0⟩
 else if i≠s.size then none else some ⟨neg,m,(behind:Int),⟨#[]⟩,false,⟨#[]⟩,false,0⟩
def gp (s:ByteArray):Option Fm:=
 let neg:=hits ⟨#[45]⟩ s 0
 let i:=if neg=true then 1 else 0
 let e:=eG s i
 if e=i then none
 else if hits ⟨#[47]⟩ s e=true then
  if eG s (e+1)=e+1∨eG s (e+1)≠s.size then none else some ⟨neg,s.extract i e,0,⟨#[]⟩,false,s.extract (e+1) (eG s (e+1)),true,((e+1:Nat):Int)⟩
 else if hits ⟨#[46]⟩ s e=true then
  if eG s (e+1)=e+1 then none else nS s neg (s.extract i e++s.extract (e+1) (eG s (e+1))) (eG s (e+1)- (e+1)) (eG s (e+1))
 else nS s neg (s.extract i e) 0 e
theorem qg.all {W:World}{g:Nat}{s:ByteArray}{i:Int}{bad:Bool}{f:Fm}(h:qg W g s i bad f):
  W.cell? ⟨g,3,none⟩=some (.bool f.neg)∧W.cell? ⟨g,4,none⟩=some (.string f.m)∧W.cell? ⟨g,5,none⟩=some (.int .i64 f.behind)∧W.cell? ⟨g,6,none⟩=some (.string f.exp)∧W.cell? ⟨g,7,none⟩=some (.bool f.down)∧W.cell? ⟨g,8,none⟩=some (.string f.den)∧W.cell? ⟨g,9,none⟩=some (.bool f.Ce)∧W.cell? ⟨g,10,none⟩=some (.int .i64 f.slash)∧∀j,W.frozen? ⟨g,j,none⟩=false:=
 ⟨(aj h 3).trans rfl,(aj h 4).trans rfl,(aj h 5).trans rfl,(aj h 6).trans rfl,(aj h 7).trans rfl,(aj h 8).trans rfl,(aj h 9).trans rfl,(aj h 10).trans rfl,au h⟩
theorem qg.put {W:World}{g:Nat}{s:ByteArray}{i:Int}{bad:Bool}{f f2:Fm}{k:Nat}{v:Value}(h:qg W g s i bad f)
  (he:(#[Value.string s,.int .i64 i,.bool bad,.bool f.neg,.string f.m,.int .i64 f.behind,.string f.exp,.bool f.down,.string f.den,.bool f.Ce,.int .i64 f.slash]).setIfInBounds k v= #[Value.string s,.int .i64 i,.bool bad,.bool f2.neg,.string f2.m,.int .i64 f2.behind,.string f2.exp,.bool f2.down,.string f2.den,.bool f2.Ce,.int .i64 f2.slash]):qg (W.setCell ⟨g,k,none⟩ v) g s i bad f2:=by
 have:=aN h k v;rw[he]at this;exact this
theorem yJ {set s:ByteArray}{i:Nat}(hset:∀b∈set.data.toList,b≠0)(h:hits set s i=true):0<bt s (i:Int):=by
 unfold hits at h;rw[Bool.and_eq_true]at h;have hz:=of_decide_eq_true h.2;obtain⟨o,ho⟩:∃o:Nat,Lib.indexByte set.data.toList (bt s (i:Int)).toNat.toUInt8=o:=⟨_,(Int.toNat_of_nonneg hz).symm⟩;have h1:=(Lib.indexByte_some ho).1;have h2:=hset _ (List.mem_of_getElem? h1);have h3:=(yA s (i:Int)).1;rcases Int.lt_or_eq_of_le h3 with h4|h4
 ·exact h4
 ·rw[←h4]at h2;exact absurd rfl h2
theorem ru (g:Nat)(set s:ByteArray)(i:Nat)(bad:Bool)(f:Fm)(w0 w:World)(hB:Below w0.heap.size w0 w)(hg:w0.heap.size≤g)(h:qg w g s (i:Int) bad f)(hi:i≤s.size)(hs:s.size≤65536):
  Calls Tryz.prog 186 #[.pointer (some ⟨g,0,none⟩),.string set] w fun e w'=>∃(r:Int) (j:Nat),e= .returned (.int .u8 r)∧qg w' g s (j:Int) bad f∧j≤s.size∧Below w0.heap.size w0 w'∧((bad=false∧hits set s i=true∧r=bt s (i:Int)∧j=i+1)∨((bad=true∨hits set s i=false)∧r=0∧j=i)):=by
 by_cases hb:bad=false∧hits set s i=true
 ·obtain⟨rfl,hh⟩:=hb;refine(RG g set s i f w h hs hh).mono ?_;rintro e w' ⟨rfl,h1,h2⟩
  have hlt:i<s.size:=by
   unfold hits at hh;rw[Bool.and_eq_true]at hh;exact of_decide_eq_true hh.1
  exact⟨_,i+1,rfl,h1,hlt,Below.qj hB h2 hg,.inl ⟨rfl,hh,rfl,rfl⟩⟩
 ·have hn:bad=true∨hits set s i=false:=by
   cases bad
   ·cases hh:hits set s i
    ·exact .inr rfl
    ·exact absurd ⟨rfl,hh⟩ hb
   ·exact .inl rfl
  refine(VT g set s i bad f w h hi hs hn).mono ?_;rintro e w' ⟨rfl,n,rfl⟩;exact⟨0,i,rfl,h,hi,ai hB n,.inr ⟨hn,rfl,rfl⟩⟩
theorem rW (g:Nat)(s:ByteArray)(i:Nat)(bad:Bool)(f:Fm)(w0 w:World)(hB:Below w0.heap.size w0 w)(hg:w0.heap.size≤g)(h:qg w g s (i:Int) bad f)(hi:i≤s.size)(hs:s.size≤65536):
  Calls Tryz.prog 187 #[.pointer (some ⟨g,0,none⟩)] w fun e w'=>e= .returned (.string (s.extract i (eG s i)))∧qg w' g s (eG s i:Int) (bad||decide (eG s i=i)) f∧Below w0.heap.size w0 w':=
 (JZ g s i bad f w h hi hs).mono fun e w' ⟨he,h1,h2⟩=>⟨he,h1,Below.qj hB h2 hg⟩
theorem DY (s:ByteArray)(n1:Bool)(j1 e0 e1:Nat)(m0:ByteArray)(hn:n1=hits ⟨#[45]⟩ s 0)(hj:j1=if hits ⟨#[45]⟩ s 0=true then 1 else 0)(hm:s.extract j1 e0=m0)(hE:eG s j1=e0)(hne:e0≠j1)(hh:hits ⟨#[47]⟩ s e0=true)(h1:eG s (e0+1)=e1):
  gp s=if e1=e0+1∨e1≠s.size then none else some ⟨n1,m0,0,⟨#[]⟩,false,s.extract (e0+1) e1,true,((e0+1:Nat):Int)⟩:=by
 unfold gp;simp only[←hn];rw[←hn]at hj;rw[←hj,hE,if_neg hne,if_pos hh,h1,hm]
theorem KC (s:ByteArray)(n1:Bool)(j1 e0 e1:Nat)(m0:ByteArray)(hn:n1=hits ⟨#[45]⟩ s 0)(hj:j1=if hits ⟨#[45]⟩ s 0=true then 1 else 0)(hm:s.extract j1 e0=m0)(hE:eG s j1=e0)(hne:e0≠j1)(hh:hits ⟨#[47]⟩ s e0=false)(hp:hits ⟨#[46]⟩ s e0=true)(h1:eG s (e0+1)=e1):
  gp s=if e1=e0+1 then none else nS s n1 (m0++s.extract (e0+1) e1) (e1- (e0+1)) e1:=by
 unfold gp;simp only[←hn];rw[←hn]at hj;rw[←hj,hE,if_neg hne,if_neg (by rw[hh];decide),if_pos hp,h1,hm]
theorem KA (s:ByteArray)(n1:Bool)(j1 e0:Nat)(m0:ByteArray)(hn:n1=hits ⟨#[45]⟩ s 0)(hj:j1=if hits ⟨#[45]⟩ s 0=true then 1 else 0)(hm:s.extract j1 e0=m0)(hE:eG s j1=e0)(hne:e0≠j1)(hh:hits ⟨#[47]⟩ s e0=false)(hp:hits ⟨#[46]⟩ s e0=false):
  gp s=nS s n1 m0 0 e0:=by
 unfold gp;simp only[←hn];rw[←hn]at hj;rw[←hj,hE,if_neg hne,if_neg (by rw[hh];decide),if_neg (by rw[hp];decide),hm]
theorem DZ (s:ByteArray)(n1:Bool)(j1 e0:Nat)(hn:n1=hits ⟨#[45]⟩ s 0)(hj:j1=if hits ⟨#[45]⟩ s 0=true then 1 else 0)(hE:eG s j1=e0)(he:e0=j1):gp s=none:=by
 unfold gp;simp only[←hn];rw[←hn]at hj;rw[←hj,hE,if_pos he]
theorem Vw (s:ByteArray)(n1:Bool)(m:ByteArray)(behind i j e1:Nat)(dn:Bool)(hh:hits ⟨#[101,69]⟩ s i=true)(hd:dn=(hits ⟨#[43,45]⟩ s (i+1)&&decide (bt s ((i+1:Nat):Int)=45)))(hj:j=(if hits ⟨#[43,45]⟩ s (i+1)=true then i+2 else i+1))(he:eG s j=e1):
  nS s n1 m behind i=(if decide (e1=j)|| !decide (e1=s.size)then none else some ⟨n1,m,(behind:Int),s.extract j e1,dn,⟨#[]⟩,false,0⟩):=by
 unfold nS;rw[if_pos hh];simp only[←hd,←hj,he]
 by_cases h1:e1=j
 ·rw[if_pos (.inl h1),decide_eq_true h1,Bool.true_or,if_pos rfl]
 ·by_cases h2:e1=s.size
  ·rw[if_neg (by intro h;rcases h with h|h;exact h1 h;exact h h2),decide_eq_false h1,decide_eq_true h2];rfl
  ·rw[if_pos (.inr h2),decide_eq_false h2,Bool.not_false,Bool.or_true,if_pos rfl]
theorem Rz (s:ByteArray)(n1:Bool)(m:ByteArray)(behind i:Nat)(hh:hits ⟨#[101,69]⟩ s i=false):
  nS s n1 m behind i=(if !decide (i=s.size)then none else some ⟨n1,m,(behind:Int),⟨#[]⟩,false,⟨#[]⟩,false,0⟩):=by
 unfold nS;rw[if_neg (by rw[hh];decide)]
 by_cases h2:i=s.size
 ·rw[if_neg (by intro h;exact h h2),decide_eq_true h2];rfl
 ·rw[if_pos h2,decide_eq_false h2];rfl
theorem KD (s:ByteArray)(w:World)(hs:s.size≤65536):
  Calls Tryz.prog 143 #[.string s] w fun e w'=>∃(g:Nat) (ok:Bool) (i:Int) (bad:Bool) (f:Fm),e= .returned (.tuple #[.pointer (some ⟨g,0,none⟩),.bool ok])∧qg w' g s i bad f∧Below w.heap.size w w'∧gp s=(if ok then some f else none)∧w.heap.size≤g:=by
 have HS:=zM hs;have hb0:Below w.heap.size w (w.alloc (.cells #[.string s,.int .i64 0,.bool false,.bool false,.string ⟨#[]⟩,.int .i64 0,.string ⟨#[]⟩,.bool false,.string ⟨#[]⟩,.bool false,.int .i64 0] 218)):=ag (Below.refl _ _) _;have hF0:qg (w.alloc (.cells #[.string s,.int .i64 0,.bool false,.bool false,.string ⟨#[]⟩,.int .i64 0,.string ⟨#[]⟩,.bool false,.string ⟨#[]⟩,.bool false,.int .i64 0] 218)) w.heap.size s 0 false ⟨false,⟨#[]⟩,0,⟨#[]⟩,false,⟨#[]⟩,false,0⟩:=bZ _ _;have H0:=zM (zA hb0 hF0);clear hs hb0 hF0;go_enter Tryz.func143,Tryz.ntmps143;go_wp2_with fail;refine(ru w.heap.size ⟨#[45]⟩ s 0 false _ w _ H0.out.1 (Nat.le_refl _) H0.out.2 (Nat.zero_le _) HS.out).mono ?_;rintro e w1 ⟨r1,j1,rfl,h1,h2,h3,h4⟩;obtain⟨a3,a4,a5,a6,a7,a8,a9,a10,af⟩:=h1.all
 have hneg:(r1 !=0)=hits ⟨#[45]⟩ s 0∧j1=(if hits ⟨#[45]⟩ s 0=true then 1 else 0):=by
  rcases h4 with⟨_,k1,k2,k3⟩|⟨k1,k2,k3⟩
  ·have h45:0<r1:=by rw[k2];exact yJ (by decide) k1
   rw[k1,if_pos rfl];exact⟨bne_iff_ne.mpr (by omega),k3⟩
  ·rw[k1.resolve_left (by decide),k2,if_neg (by decide)];exact⟨rfl,k3⟩
 have hF1:qg (w1.setCell ⟨w.heap.size,3,none⟩ (.bool (r1 !=0))) w.heap.size s (j1:Int) false ⟨r1 !=0,⟨#[]⟩,0,⟨#[]⟩,false,⟨#[]⟩,false,0⟩:=h1.put rfl;have H1:=zM (zA hF1 (zA h2 (zA (h3.setCell (Nat.le_refl _) _:Below w.heap.size w (w1.setCell ⟨w.heap.size,3,none⟩ (.bool (r1 !=0)))) hneg)));have hf3:=af 3;clear h1 h2 h3 h4 a4 a5 a6 a7 a8 a9 a10 af hneg hF1;go_wp2_with fail;refine(rW w.heap.size s j1 false _ w _ H1.out.2.2.1 (Nat.le_refl _) H1.out.1 H1.out.2.1 HS.out).mono ?_;rintro e w2 ⟨rfl,h1,h2⟩;obtain⟨e0,he0⟩:∃e0,eG s j1=e0:=⟨_,rfl⟩;have hle:e0≤s.size:=by rw[←he0];exact lD s j1 H1.out.2.1
 rw[he0]at h1⊢;rw[Bool.false_or]at h1;obtain⟨a3',a4,a5,a6,a7,a8,a9,a10,af⟩:=h1.all;have hF2:qg (w2.setCell ⟨w.heap.size,4,none⟩ (.string (s.extract j1 e0))) w.heap.size s (e0:Int) (decide (e0=j1)) ⟨r1 !=0,s.extract j1 e0,0,⟨#[]⟩,false,⟨#[]⟩,false,0⟩:=h1.put rfl;have H2:=zM (zA hF2 (zA hle (zA (h2.setCell (Nat.le_refl _) _:Below w.heap.size w (w2.setCell ⟨w.heap.size,4,none⟩ (.string (s.extract j1 e0)))) he0)));have hf4:=af 4;clear h1 h2 hle he0 hF2 a3' a5 a6 a7 a8 a9 a10 af hf3 a3;go_wp2_with fail;refine(ru w.heap.size ⟨#[47]⟩ s e0 _ _ w _ H2.out.2.2.1 (Nat.le_refl _) H2.out.1 H2.out.2.1 HS.out).mono ?_;rintro e w3 ⟨r3,j3,rfl,h1,h2,h3,h4⟩;obtain⟨n1,hn1⟩:∃b,(r1 !=0)=b:=⟨_,rfl⟩;obtain⟨m0,hm0⟩:∃m,s.extract j1 e0=m:=⟨_,rfl⟩;obtain⟨Ze,Qm⟩:∃b,decide (e0=j1)=b:=⟨_,rfl⟩;rw[hn1,hm0,Qm]at h1;rw[Qm]at h4;have hn:=H1.out.2.2.2.1;have hj:=H1.out.2.2.2.2;rw[hn1]at hn;have hms:m0.size≤65536:=by rw[←hm0,ByteArray.size_extract];have:=HS.out;omega
 have HP:=zM (zA hn (zA hj (zA hm0 (zA Qm hms))));have HE:=zM H2.out.2.2.2;clear hn1 hm0 Qm hf4 a4 hn hj hms;rcases h4 with⟨k0,k1,k2,k3⟩|⟨k1,k2,k3⟩
 ·have h47:(r3 !=0)=true:=by rw[k2];exact bne_iff_ne.mpr (by have:=yJ (set:=⟨#[47]⟩) (by decide) k1;omega)
  subst k0;subst k3;obtain⟨b3,b4,b5,b6,b7,b8,b9,b10,bf⟩:=h1.all;obtain⟨c0,c1,c2,_,_⟩:=h1.cells;have hf9:=bf 9;have arY:=bf 10;have hFA:qg ((w3.setCell ⟨w.heap.size,9,none⟩ (.bool true)).setCell ⟨w.heap.size,10,none⟩ (.int .i64 ((e0+1:Nat):Int))) w.heap.size s ((e0+1:Nat):Int) false ⟨n1,m0,0,⟨#[]⟩,false,⟨#[]⟩,true,((e0+1:Nat):Int)⟩:=(h1.put (f2:=⟨n1,m0,0,⟨#[]⟩,false,⟨#[]⟩,true,0⟩) rfl).put rfl;have H3:=zM (zA hFA (zA ((h3.setCell (Nat.le_refl _) _).setCell (Nat.le_refl _) _:Below w.heap.size w ((w3.setCell ⟨w.heap.size,9,none⟩ (.bool true)).setCell ⟨w.heap.size,10,none⟩ (.int .i64 ((e0+1:Nat):Int)))) (zA h2 k1)));clear h1 h2 h3 k1 k2 hFA b3 b4 b5 b6 b7 b8 bf c0 c2;go_wp2_with fail;refine(rW w.heap.size s (e0+1) false _ w _ H3.out.2.1 (Nat.le_refl _) H3.out.1 H3.out.2.2.1 HS.out).mono ?_;rintro e w4 ⟨rfl,h1,h2⟩;obtain⟨e1,he1⟩:∃e1,eG s (e0+1)=e1:=⟨_,rfl⟩;rw[he1]at h1⊢;rw[Bool.false_or]at h1;obtain⟨a3,a4,a5,a6,a7,a8,a9,a10,af⟩:=h1.all;have hf8:=af 8;have hF4:qg (w4.setCell ⟨w.heap.size,8,none⟩ (.string (s.extract (e0+1) e1))) w.heap.size s (e1:Int) (decide (e1=e0+1)) ⟨n1,m0,0,⟨#[]⟩,false,s.extract (e0+1) e1,true,((e0+1:Nat):Int)⟩:=h1.put rfl;obtain⟨d0,d1,d2,_,_⟩:=hF4.cells;obtain⟨w5,hw5⟩:∃w5,w4.setCell ⟨w.heap.size,8,none⟩ (.string (s.extract (e0+1) e1))=w5:=⟨_,rfl⟩;have hb5:Below w.heap.size w w5:=by rw[←hw5];exact h2.setCell (Nat.le_refl _) _
  rw[hw5]at hF4 d0 d1 d2;have H5:=zM (zA hF4 (zA hb5 he1));clear h1 h2 he1 hF4 hb5 a3 a4 a5 a6 a7 a9 a10 af
  have heq:((e1:Int)==(s.size:Int))=decide (e1=s.size):=by
   by_cases h:e1=s.size
   ·rw[decide_eq_true h,h];exact beq_iff_eq.mpr rfl
   ·rw[decide_eq_false h];exact beq_eq_false_iff_ne.mpr (by omega)
  have HQ:=zM heq;clear heq
  by_cases hb:e1=e0+1
  ·have hbd:=zT hb;rw[hbd]at d2;have HB:=zM hb;clear hb hbd;go_wp2_with fail;go_quiet (fail);go_wp2_with fail;go_ret2;refine⟨_,_,_,_,_,rfl,H5.out.1,ai H5.out.2.1 _,?_,Nat.le_refl _⟩;rw[DY s n1 j1 e0 e1 m0 HP.out.1 HP.out.2.1 HP.out.2.2.1 HE.out (of_decide_eq_false HP.out.2.2.2.1) H3.out.2.2.2 H5.out.2.2,if_pos (.inl HB.out)];rfl
  ·have hbd:=zF hb;rw[hbd]at d2;have HB:=zM hb;obtain⟨ok,hok⟩:∃b,decide (e1=s.size)=b:=⟨_,rfl⟩;have heq:=HQ.out;rw[hok]at heq;have JD:=zM hok;clear hb hbd hok;go_wp2_with fail;go_quiet (fail);go_wp2_with fail;go_ret2;refine⟨_,_,_,_,_,rfl,H5.out.1,ai H5.out.2.1 _,?_,Nat.le_refl _⟩;rw[DY s n1 j1 e0 e1 m0 HP.out.1 HP.out.2.1 HP.out.2.2.1 HE.out (of_decide_eq_false HP.out.2.2.2.1) H3.out.2.2.2 H5.out.2.2,←JD.out]
   by_cases h:e1=s.size
   ·rw[if_neg (by intro h';rcases h' with h'|h';exact HB.out h';exact h' h),if_pos (decide_eq_true h)]
   ·rw[if_pos (.inr h),if_neg (by rw[decide_eq_false h];decide)]
 ·have h0:(r3 !=0)=false:=by rw[k2];rfl
  subst k3;have H3:=zM (zA h1 (zA h2 (zA h3 k1)));clear h1 h2 h3 k1 k2;go_wp2_with fail;refine(ru w.heap.size ⟨#[46]⟩ s j3 Ze _ w _ H3.out.2.2.1 (Nat.le_refl _) H3.out.1 H3.out.2.1 HS.out).mono ?_;rintro e w4 ⟨r4,j4,rfl,h1,h2,h3,h4⟩;go_upto_if 55 with(fail);go_cut [] (fun wc=>Aside0 (∃(i:Nat) (m:ByteArray) (behind:Nat) (bad:Bool),qg wc w.heap.size s (i:Int) bad ⟨n1,m,(behind:Int),⟨#[]⟩,false,⟨#[]⟩,false,0⟩∧i≤s.size∧Below w.heap.size w wc∧gp s=(if bad then none else nS s n1 m behind i)))
  case first=>
   rcases h4 with⟨k0,k1,k2,k3⟩|⟨k1,k2,k3⟩
   ·have h46:(r4 !=0)=true:=by rw[k2];exact bne_iff_ne.mpr (by have:=yJ (set:=⟨#[46]⟩) (by decide) k1;omega)
    subst k0;subst k3;have H4:=zM (zA h1 (zA h2 (zA h3 k1)));clear h1 h2 h3 k1 k2;go_wp2_with fail;refine(rW w.heap.size s (j3+1) false _ w _ H4.out.2.2.1 (Nat.le_refl _) H4.out.1 H4.out.2.1 HS.out).mono ?_;rintro e w5 ⟨rfl,h1,h2⟩;obtain⟨e1,he1⟩:∃e1,eG s (j3+1)=e1:=⟨_,rfl⟩;have hle:e1≤s.size:=by rw[←he1];exact lD s (j3+1) H4.out.2.1
    rw[he1]at h1⊢;rw[Bool.false_or]at h1;obtain⟨dd,hdd⟩:∃dd,s.extract (j3+1) e1=dd:=⟨_,rfl⟩;have hsz:dd.size=e1- (j3+1):=by rw[←hdd,ByteArray.size_extract];omega
    rw[hdd];obtain⟨a3,a4,a5,a6,a7,a8,a9,a10,af⟩:=h1.all;have hf4:=af 4;have hf5:=af 5;have hF:qg ((w5.setCell ⟨w.heap.size,5,none⟩ (.int .i64 ((dd.size:Nat):Int))).setCell ⟨w.heap.size,4,none⟩ (.string (m0++dd))) w.heap.size s (e1:Int) (decide (e1=j3+1)) ⟨n1,m0++dd,((dd.size:Nat):Int),⟨#[]⟩,false,⟨#[]⟩,false,0⟩:=(h1.put (f2:=⟨n1,m0,((dd.size:Nat):Int),⟨#[]⟩,false,⟨#[]⟩,false,0⟩) rfl).put rfl;have hfp:=KC s n1 j1 j3 e1 m0 HP.out.1 HP.out.2.1 HP.out.2.2.1 HE.out (of_decide_eq_false HP.out.2.2.2.1) (H3.out.2.2.2.resolve_left (by decide)) H4.out.2.2.2 he1
    have V9:gp s=(if decide (e1=j3+1)then none else nS s n1 (m0++dd) dd.size e1):=by
     rw[hfp,hsz,hdd]
     by_cases h:e1=j3+1
     ·rw[if_pos h,if_pos (decide_eq_true h)]
     ·rw[if_neg h,if_neg (by rw[decide_eq_false h];decide)]
    have HF:=zM (zA hF (zA hle (zA ((h2.setCell (Nat.le_refl _) _).setCell (Nat.le_refl _) _:Below w.heap.size w ((w5.setCell ⟨w.heap.size,5,none⟩ (.int .i64 ((dd.size:Nat):Int))).setCell ⟨w.heap.size,4,none⟩ (.string (m0++dd)))) V9)));have KO:¬9223372036854775807<m0.size+dd.size:=by have:=HP.out.2.2.2.2;have:=HS.out;omega
    clear h1 h2 hle he1 hdd hsz hF hfp V9 a3 a6 a7 a8 a9 a10 af;go_wp2_with fail;go_meet
    case rel=>
     exact⟨e1,m0++dd,dd.size,decide (e1=j3+1),HF.out.1,HF.out.2.1,HF.out.2.2.1,HF.out.2.2.2⟩
   ·have h46:(r4 !=0)=false:=by rw[k2];rfl
    subst k3
    have V9:gp s=(if Ze then none else nS s n1 m0 0 j4):=by
     cases Ze
     ·rw[if_neg (by decide)];exact KA s n1 j1 j4 m0 HP.out.1 HP.out.2.1 HP.out.2.2.1 HE.out (of_decide_eq_false HP.out.2.2.2.1) (H3.out.2.2.2.resolve_left (by decide)) (k1.resolve_left (by decide))
     ·rw[if_pos rfl];exact DZ s n1 j1 j4 HP.out.1 HP.out.2.1 HE.out (of_decide_eq_true HP.out.2.2.2.1)
    have HF:=zM (zA h1 (zA h2 (zA h3 V9)));clear h1 h2 h3 k1 k2 V9;go_wp2_with fail;go_meet
    case rel=>exact⟨j4,m0,0,Ze,HF.out.1,HF.out.2.1,HF.out.2.2.1,HF.out.2.2.2⟩
  case rest=>
   obtain⟨i,m,behind,bad,HX⟩:∃(i:Nat) (m:ByteArray) (behind:Nat) (bad:Bool),Aside0 (qg wc w.heap.size s (i:Int) bad ⟨n1,m,(behind:Int),⟨#[]⟩,false,⟨#[]⟩,false,0⟩∧i≤s.size∧Below w.heap.size w wc∧gp s=(if bad then none else nS s n1 m behind i)):=by
    obtain⟨i,m,behind,bad,h⟩:=hcut.out;exact⟨i,m,behind,bad,⟨h⟩⟩
   clear hcut h1 h2 h3 h4 h0 H3 H2 H1 H0 HP HE;go_wp2_with fail;refine(ru w.heap.size ⟨#[101,69]⟩ s i bad _ w _ HX.out.2.2.1 (Nat.le_refl _) HX.out.1 HX.out.2.1 HS.out).mono ?_;rintro e w6 ⟨r6,j6,rfl,h1,h2,h3,h4⟩;go_upto_if 73 with(fail);go_cut [] (fun wd=>Aside0 (∃(k:Nat) (bad:Bool) (f:Fm),qg wd w.heap.size s (k:Int) bad f∧Below w.heap.size w wd∧gp s=(if bad|| !decide (k=s.size)then none else some f)))
   case first=>
    rcases h4 with⟨k0,k1,k2,k3⟩|⟨k1,k2,k3⟩
    ·have h46:(r6 !=0)=true:=by rw[k2];exact bne_iff_ne.mpr (by have:=yJ (set:=⟨#[101,69]⟩) (by decide) k1;omega)
     subst k0;subst k3;have H4:=zM (zA h1 (zA h2 (zA h3 k1)));clear h1 h2 h3 k1 k2;go_wp2_with fail;refine(ru w.heap.size ⟨#[43,45]⟩ s (i+1) false _ w _ H4.out.2.2.1 (Nat.le_refl _) H4.out.1 H4.out.2.1 HS.out).mono ?_;rintro e w7 ⟨r7,j7,rfl,h1,h2,h3,h4⟩;obtain⟨a3,a4,a5,a6,a7,a8,a9,a10,af⟩:=h1.all;obtain⟨dn,hdn⟩:∃b,(r7==45)=b:=⟨_,rfl⟩
     have hj7:dn=(hits ⟨#[43,45]⟩ s (i+1)&&decide (bt s ((i+1:Nat):Int)=45))∧j7=(if hits ⟨#[43,45]⟩ s (i+1)=true then i+2 else i+1):=by
      rcases h4 with⟨_,k1,k2,k3⟩|⟨k1,k2,k3⟩
      ·rw[k1,if_pos rfl,Bool.true_and,←hdn,k2];exact⟨rfl,k3⟩
      ·rw[k1.resolve_left (by decide),if_neg (by decide),←hdn,k2];exact⟨rfl,k3⟩
     have hF7:qg (w7.setCell ⟨w.heap.size,7,none⟩ (.bool dn)) w.heap.size s (j7:Int) false ⟨n1,m,(behind:Int),⟨#[]⟩,dn,⟨#[]⟩,false,0⟩:=h1.put rfl;have hc2:=hF7.cells;obtain⟨w8,hw8⟩:∃w8,w7.setCell ⟨w.heap.size,7,none⟩ (.bool dn)=w8:=⟨_,rfl⟩;have hb8:Below w.heap.size w w8:=by rw[←hw8];exact h3.setCell (Nat.le_refl _) _
     rw[hw8]at hF7 hc2;obtain⟨q0,q1,q2,q3,q4⟩:=hc2;have H7:=zM (zA hF7 (zA h2 (zA hb8 hj7)));have hf7:=af 7;clear h1 h2 h3 h4 hj7 hF7 hb8 a3 a4 a5 a6 a8 a9 a10 af q0 q1 q3 q4;go_wp2_with fail;refine(rW w.heap.size s j7 false _ w _ H7.out.2.2.1 (Nat.le_refl _) H7.out.1 H7.out.2.1 HS.out).mono ?_;rintro e w9 ⟨rfl,h1,h2⟩;obtain⟨e1,he1⟩:∃e1,eG s j7=e1:=⟨_,rfl⟩;rw[he1]at h1⊢;rw[Bool.false_or]at h1;obtain⟨a3,a4,a5,a6,a7',a8,a9,a10,af⟩:=h1.all;have hf6:=af 6;have hF:qg (w9.setCell ⟨w.heap.size,6,none⟩ (.string (s.extract j7 e1))) w.heap.size s (e1:Int) (decide (e1=j7)) ⟨n1,m,(behind:Int),s.extract j7 e1,dn,⟨#[]⟩,false,0⟩:=h1.put rfl
     have hfp:gp s=(if decide (e1=j7)|| !decide (e1=s.size)then none else some ⟨n1,m,(behind:Int),s.extract j7 e1,dn,⟨#[]⟩,false,0⟩):=by
      have h:=HX.out.2.2.2;rw[if_neg (by decide)]at h;rw[h];exact Vw s n1 m behind i j7 e1 dn H4.out.2.2.2 H7.out.2.2.2.1 H7.out.2.2.2.2 he1
     have HF:=zM (zA hF (zA (h2.setCell (Nat.le_refl _) _:Below w.heap.size w (w9.setCell ⟨w.heap.size,6,none⟩ (.string (s.extract j7 e1)))) hfp));clear h1 h2 he1 hF hfp a3 a4 a5 a7' a8 a9 a10 af;go_wp2_with fail;go_meet
     case rel=>exact⟨e1,decide (e1=j7),_,HF.out.1,HF.out.2.1,HF.out.2.2⟩
    ·have h46:(r6 !=0)=false:=by rw[k2];rfl
     subst k3
     have hfp:gp s=(if bad|| !decide (j6=s.size)then none else some ⟨n1,m,(behind:Int),⟨#[]⟩,false,⟨#[]⟩,false,0⟩):=by
      have h:=HX.out.2.2.2;rw[h];cases bad
      ·rw[if_neg (by decide),Bool.false_or];exact Rz s n1 m behind j6 (k1.resolve_left (by decide))
      ·rw[if_pos rfl,Bool.true_or,if_pos rfl]
     have HF:=zM (zA h1 (zA h3 hfp));clear h1 h2 h3 k1 k2 hfp;go_wp2_with fail;go_meet
     case rel=>exact⟨j6,bad,_,HF.out.1,HF.out.2.1,HF.out.2.2⟩
   case rest=>
    obtain⟨k,bd,f,HZ⟩:∃(k:Nat) (bd:Bool) (f:Fm),Aside0 (qg wc w.heap.size s (k:Int) bd f∧Below w.heap.size w wc∧gp s=(if bd|| !decide (k=s.size)then none else some f)):=by
     obtain⟨k,bd,f,h⟩:=hcut.out;exact⟨k,bd,f,⟨h⟩⟩
    clear hcut h1 h2 h3 h4 HX;obtain⟨d0,d1,d2,_,_⟩:=HZ.out.1.cells
    have heq:((k:Int)==(s.size:Int))=decide (k=s.size):=by
     by_cases h:k=s.size
     ·rw[decide_eq_true h,h];exact beq_iff_eq.mpr rfl
     ·rw[decide_eq_false h];exact beq_eq_false_iff_ne.mpr (by omega)
    cases bd
    ·obtain⟨ok,hok⟩:∃b,decide (k=s.size)=b:=⟨_,rfl⟩;rw[hok]at heq;have JD:=zM hok;clear hok;go_wp2_with fail;go_quiet (fail);go_wp2_with fail;go_ret2;refine⟨_,_,_,_,_,rfl,HZ.out.1,ai HZ.out.2.1 _,?_,Nat.le_refl _⟩;rw[HZ.out.2.2,JD.out];cases ok<;>rfl
    ·clear heq;go_wp2_with fail;go_quiet (fail);go_wp2_with fail;go_ret2;refine⟨_,_,_,_,_,rfl,HZ.out.1,ai HZ.out.2.1 _,?_,Nat.le_refl _⟩;rw[HZ.out.2.2];rfl
def lS (s:ByteArray):ByteArray:=⟨(Lib.trimLeftB s.data.toList 48).toArray⟩
def eP (s:ByteArray):ByteArray:=if((lS s).toList==[])=true then⟨#[48]⟩else lS s
theorem J6:∀l:List UInt8,dec 0 ((Lib.trimLeftB l 48).map fun b=>(b.toNat:Int))=dec 0 (l.map fun b=>(b.toNat:Int))
 | []=>rfl
 |a::l=>by
  unfold Lib.trimLeftB;rw[List.dropWhile_cons]
  by_cases h:a=48
  ·subst h;rw[if_pos (by decide),List.map_cons];exact(J6 l).trans rfl
  ·rw[if_neg (by simpa using h)]
theorem F8:∀l:List UInt8,∀a t,Lib.trimLeftB l 48=a::t→a≠48
 | [],a,t,h=>by cases h
 |b::l,a,t,h=>by
  unfold Lib.trimLeftB at h;rw[List.dropWhile_cons]at h
  by_cases hb:b=48
  ·subst hb;rw[if_pos (by decide)]at h;exact F8 l a t h
  ·rw[if_neg (by simpa using hb)]at h;injection h with h1 h2;subst h1;exact hb
theorem J7 (l:List UInt8):(Lib.trimLeftB l 48).Sublist l:=List.dropWhile_sublist _
theorem kV (s:ByteArray)(h:Num (bytesOf s)):Canon (eP s)∧dv (eP s)=dv s∧(eP s).size≤s.size+1∧(0<s.size→(eP s).size≤s.size):=by
 have hb:bytesOf (lS s)=(Lib.trimLeftB s.data.toList 48).map fun b=>(b.toNat:Int):=by simp[bytesOf,lS]
 have hd:dv (lS s)=dv s:=by unfold dv;rw[hb,J6];rfl
 have hsz:(lS s).size≤s.size:=by
  have:=(J7 s.data.toList).length_le;have h2:(lS s).size=(Lib.trimLeftB s.data.toList 48).length:=(bV (lS s)).symm.trans rfl;rw[h2];exact Nat.le_trans this (Nat.le_of_eq (bV s))
 unfold eP
 by_cases he:(lS s).toList=[]
 ·rw[if_pos (by rw[he];rfl)];refine⟨⟨by decide,fun _=>by decide,?_⟩,?_,?_,fun h=>h⟩
  ·intro c hc;have:bytesOf (⟨#[48]⟩:ByteArray)=[48]:=rfl;rw[this]at hc;simp at hc;subst hc;decide
  ·rw[←hd];unfold dv;rw[hb];rw[ByteArray.toList_eq]at he;have:Lib.trimLeftB s.data.toList 48=[]:=by simpa[lS]using he
   rw[this];rfl
  ·exact Nat.le_add_left 1 _
 ·rw[if_neg (by simpa using he)];rw[ByteArray.toList_eq]at he;have h1:Lib.trimLeftB s.data.toList 48≠[]:=by simpa[lS]using he
  obtain⟨a,t,hat⟩:∃a t,Lib.trimLeftB s.data.toList 48=a::t:=by
   cases h2:Lib.trimLeftB s.data.toList 48 with
   |nil=>exact absurd h2 h1
   |cons a t=>exact⟨a,t,rfl⟩
  refine⟨⟨?_,?_,?_⟩,hd,by omega,fun _=>hsz⟩
  ·have h2:=bV (lS s);rw[show(lS s).data.toList=a::t from hat,List.length_cons]at h2;omega
  ·intro h3;rw[←gW,hb,hat]at h3;have:=F8 _ _ _ hat;refine absurd ?_ this;simp[rd]at h3;have h4:a.toNat=48:=by omega
   exact UInt8.toNat_inj.1 h4
  ·rw[hb];intro c hc;refine h c ?_;have hs:=(J7 s.data.toList).map fun b=>(b.toNat:Int)
   exact hs.subset hc
theorem uX (s:ByteArray)(w:World):Calls Tryz.prog 144 #[.string s] w fun e w'=>e= .returned (.string (eP s))∧w'=w:=by
 obtain⟨t,ht⟩:∃t,(⟨(Lib.trimLeftB s.data.toList 48).toArray⟩:ByteArray)=t:=⟨_,rfl⟩;have hB:eP s=if(t.toList==[])=true then⟨#[48]⟩else t:=by rw[←ht];rfl
 have HT:=zM (zA ht hB);obtain⟨b,hb⟩:∃b,(t.toList==[])=b:=⟨_,rfl⟩;have oV:=zM hb;clear ht hB;go_enter Tryz.func144,Tryz.ntmps144;go_wp2_with fail;refine(Tryz.strings_TrimLeft_one s 48 (by decide) _).mono ?_;rintro e w1 ⟨rfl,rfl⟩;rw[HT.out.1];cases b
 ·go_wp2_with fail;go_ret;exact⟨by rw[HT.out.2,oV.out];rfl,rfl⟩
 ·go_wp2_with fail;go_ret;exact⟨by rw[HT.out.2,oV.out];rfl,rfl⟩
theorem rP (s:ByteArray)(w:World)(h0:0<s.size)(hl:s.size≤1000)(hn:Num (bytesOf s)):Calls Tryz.prog 145 #[.string s] w fun e w'=>∃g xs,e= .returned (.pointer (some ⟨g,0,none⟩))∧w.heap.size≤g∧iy w' g false xs∧Wd xs∧val 4294967296 xs=dv s∧Below w.heap.size w w':=by
 have HK:=zM (zA h0 (zA hl hn));clear h0 hl hn;go_enter Tryz.func145,Tryz.ntmps145;go_wp2_with fail;refine(uO w.heap.size s 10 _ _ _ (bZ w _) HK.out.1 HK.out.2.1 HK.out.2.2).mono ?_;rintro e w2 ⟨xs,rfl,h1,h2,h3,h4⟩;have hb2:Below w.heap.size w w2:=(gm.dU (ag (Below.refl _ _) _) h4).below (fun k hk=>by subst hk;exact Nat.le_refl _);have HG:=zM (zA (Nat.le_refl w.heap.size) (zA h3 (zA h1 (zA h2 hb2))));clear h1 h2 h3 h4 hb2;go_wp2_with fail;go_ret;exact⟨w.heap.size,xs,rfl,HG.out⟩
theorem BA {W:World}{gz:Nat}{u0 u1 u2 u3:Value}{np nq:Bool}{ps qs:List Int}{A B:Option Addr}{c d:Nat}(hb:W.heap[gz]?=some (.cells #[u0,u1,u2,u3] 179 (0,0)))(hA:U W A ps)(hc:ps.length≤c)(hB:U W B qs)(hd:qs.length≤d):
  kU ((((W.setCell ⟨gz,0,none⟩ (.bool np)).setCell ⟨gz,1,none⟩ (.slice A ps.length c)).setCell ⟨gz,2,none⟩ (.bool false)).setCell ⟨gz,3,none⟩ (.slice B qs.length d)) gz np ps qs∧gm (·=gz) W ((((W.setCell ⟨gz,0,none⟩ (.bool np)).setCell ⟨gz,1,none⟩ (.slice A ps.length c)).setCell ⟨gz,2,none⟩ (.bool false)).setCell ⟨gz,3,none⟩ (.slice B qs.length d)):=by
 have hch:gm (·=gz) W ((((W.setCell ⟨gz,0,none⟩ (.bool np)).setCell ⟨gz,1,none⟩ (.slice A ps.length c)).setCell ⟨gz,2,none⟩ (.bool false)).setCell ⟨gz,3,none⟩ (.slice B qs.length d)):=((((gm.refl (·=gz) W).setCell ⟨gz,0,none⟩ (.inl rfl) _).setCell ⟨gz,1,none⟩ (.inl rfl) _).setCell ⟨gz,2,none⟩ (.inl rfl) _).setCell ⟨gz,3,none⟩ (.inl rfl) _;have hn:¬Ty W 131 gz:=Ha hb (by decide);refine⟨⟨A,c,B,d,?_,hc,hd,hA.qj hch (fun k hk _=>by subst hk;exact hn),hB.qj hch (fun k hk _=>by subst hk;exact hn)⟩,hch⟩;have h0:=aN hb 0 (.bool np);have h1:=aN h0 1 (.slice A ps.length c);have h2:=aN h1 2 (.bool false);have h3:=aN h2 3 (.slice B qs.length d);simpa using h3
theorem qI (gz gx:Nat)(neg:Bool)(xs:List Int)(w:World)(v0 v1 v2 v3:Value)(hz:w.heap[gz]?=some (.cells #[v0,v1,v2,v3] 179 (0,0)))(hx:iy w gx neg xs)(wx:Wd xs):
  Calls Tryz.prog 191 #[.pointer (some ⟨gz,0,none⟩),.pointer (some ⟨gx,0,none⟩)] w fun e w'=>e= .returned (.pointer (some ⟨gz,0,none⟩))∧kU w' gz (neg&& !xs.isEmpty) xs [1]∧gm (·=gz) w w':=by
 have HX:=zM (zA hz (zA hx wx));clear hz hx wx;go_enter Tryz.func191,Tryz.ntmps191;go_wp2_with fail
 go_region_with ((first
  |(go_at_call 226;refine(uP w.heap.size gx 0 neg xs _ _ _ (by first|exact bZ w _|exact bZ w.drew _) (HX.out.2.1.below (by first|exact ag (dB (Below.refl _ _)) _|exact ag (Below.refl _ _) _)).c HX.out.2.2).mono ?_;rintro e w2 ⟨rfl,h1,h2⟩;obtain⟨A2,c2,hb2,hc2,KN⟩:=h1;have hy0:w2.cell? ⟨w.heap.size,0,none⟩=_:=(aj hb2 0).trans rfl;have hy1:w2.cell? ⟨w.heap.size,1,none⟩=_:=(aj hb2 1).trans rfl;have HF:=zM (zA hc2 (zA KN h2));clear hb2 hc2 KN h2)
  |(go_at_call 117;refine(jw 1 _ (by omega) (by omega)).mono ?_;rintro e w3 ⟨g1,os,rfl,h1,h2,h3,h4,h5⟩;obtain rfl:os=[1]:=h3.inj uS (by rw[h4,val_one]);obtain⟨A3,c3,hb3,hc3,V6⟩:=h2;replace hy0:=aI h5 hy0;replace hy1:=aI h5 hy1;have hz0:w3.cell? ⟨g1,0,none⟩=_:=(aj hb3 0).trans rfl;have hz1:w3.cell? ⟨g1,1,none⟩=_:=(aj hb3 1).trans rfl;have hgb:w3.heap[gz]?=some (.cells #[v0,v1,v2,v3] 179 (0,0)):=(h5.block gz (Nat.lt_of_lt_of_le (dV HX.out.1) (by have:=HF.out.2.2.size;simp at this;omega))).trans ((HF.out.2.2.block gz (by have:=dV HX.out.1;simp;omega) (by have:=dV HX.out.1;omega)).trans (((ag (dB (Below.refl w.heap.size w)) (.cells #[.bool false,.slice none 0 0] 173)).block gz (dV HX.out.1)).trans HX.out.1));have hg0:w3.cell? ⟨gz,0,none⟩=some v0:=(aj hgb 0).trans rfl;have hg1:w3.cell? ⟨gz,1,none⟩=some v1:=(aj hgb 1).trans rfl;have hg2:w3.cell? ⟨gz,2,none⟩=some v2:=(aj hgb 2).trans rfl;have hg3:w3.cell? ⟨gz,3,none⟩=some v3:=(aj hgb 3).trans rfl;have hf0:=au hgb 0;have hf1:=au hgb 1;have hf2:=au hgb 2;have hf3:=au hgb 3;have HG:=zM (zA hc3 (zA V6 (zA h5 hgb)));clear hb3 hc3 V6 h1 h3 h4 h5 hgb)))
 all_goals(
  have hB3:Below w.heap.size w w3:=ah ((gm.dU (S:=fun k=>k=w.heap.size) (ag (Below.refl w.heap.size w) (.cells #[.bool false,.slice none 0 0] 173)) (gm.dU (dB (Below.refl _ _)) HF.out.2.2)).below (fun k hk=>by subst hk;exact Nat.le_refl _)) (by have:=HF.out.2.2.size;simp at this;omega) HG.out.2.2.1;have hr:=BA (np:=neg&& !xs.isEmpty) (nq:=false) (ps:=xs) (qs:=[1]) HG.out.2.2.2 (HF.out.2.1.below HG.out.2.2.1) HF.out.1 HG.out.2.1 HG.out.1;have HR:=zM (zA hr.1 (gm.dU hB3 hr.2));clear hr hB3;go_wp2_with fail;go_ret
  exact⟨rfl,HR.out.1,HR.out.2⟩)
theorem kU.four {W:World}{g:Nat}{np:Bool}{ps qs:List Int}(h:kU W g np ps qs):∃v0 v1 v2 v3,W.heap[g]?=some (.cells #[v0,v1,v2,v3] 179 (0,0)):=by
 obtain⟨A,c,A2,c2,h0,_⟩:=h;exact⟨_,_,_,_,h0⟩
theorem LU (gz gx:Nat)(np:Bool)(ps qs:List Int)(w:World)(v0 v1 v2 v3:Value)(hz:w.heap[gz]?=some (.cells #[v0,v1,v2,v3] 179 (0,0)))(hx:kU w gx np ps qs)(wp:Wd ps)(wq:Wd qs):
  Calls Tryz.prog 193 #[.pointer (some ⟨gz,0,none⟩),.pointer (some ⟨gx,0,none⟩)] w fun e w'=>e= .returned (.pointer (some ⟨gz,0,none⟩))∧kU w' gz (np&& !ps.isEmpty) ps (iH qs)∧gm (·=gz) w w':=by
 have HX:=zM (zA hz (zA hx (zA wp wq)));clear hz hx wp wq;go_enter Tryz.func193,Tryz.ntmps193;go_wp2_with fail;refine(Ei gx np ps qs _ HX.out.2.1 HX.out.2.2.1).mono ?_;rintro e w1 ⟨g1,rfl,h1,h2,h3⟩;have H1:=zM (zA h1 (zA h2 h3));clear h1 h2 h3;go_wp2_with fail;refine(o9 gx np ps qs _ (HX.out.2.1.below H1.out.2.2) HX.out.2.2.2).mono ?_;rintro e w2 ⟨g2,rfl,h1,h2,h3⟩;have hB2:=ah H1.out.2.2 H1.out.2.2.size h3;have hgb:w2.heap[gz]?=some (.cells #[v0,v1,v2,v3] 179 (0,0)):=(hB2.block gz (dV HX.out.1)).trans HX.out.1;obtain⟨A2,c2,hb2,hc2,KN⟩:=H1.out.2.1.below h3;obtain⟨A3,c3,hb3,hc3,V6⟩:=h2;have hy0:w2.cell? ⟨g1,0,none⟩=some (.bool (np&& !ps.isEmpty)):=(aj hb2 0).trans rfl;have hy1:w2.cell? ⟨g1,1,none⟩=some (.slice A2 ps.length c2):=(aj hb2 1).trans rfl;have hz0:w2.cell? ⟨g2,0,none⟩=some (.bool false):=(aj hb3 0).trans rfl;have hz1:w2.cell? ⟨g2,1,none⟩=some (.slice A3 (iH qs).length c3):=(aj hb3 1).trans rfl;have hg0:w2.cell? ⟨gz,0,none⟩=some v0:=(aj hgb 0).trans rfl;have hg1:w2.cell? ⟨gz,1,none⟩=some v1:=(aj hgb 1).trans rfl;have hg2:w2.cell? ⟨gz,2,none⟩=some v2:=(aj hgb 2).trans rfl;have hg3:w2.cell? ⟨gz,3,none⟩=some v3:=(aj hgb 3).trans rfl;have hf0:=au hgb 0;have hf1:=au hgb 1;have hf2:=au hgb 2;have hf3:=au hgb 3;have H2:=zM (zA hB2 (zA hgb (zA (zA KN hc2) (zA V6 hc3))));clear h1 h3 hB2 hgb hb2 hb3 hc2 hc3 KN V6;go_wp2_with fail;go_region_with (fail)
 all_goals(
  have hr:=BA (np:=np&& !ps.isEmpty) (nq:=false) (ps:=ps) (qs:=iH qs) H2.out.2.1 H2.out.2.2.1.1 H2.out.2.2.1.2 H2.out.2.2.2.1 H2.out.2.2.2.2;have HR:=zM (zA hr.1 (gm.dU H2.out.1 hr.2));clear hr;go_wp2_with fail;go_ret
  exact⟨rfl,HR.out.1.below (dB (Below.refl _ _)),HR.out.2.drew⟩)
theorem xR {W:World}{gz:Nat}{np nq:Bool}{ps qs:List Int}(h:kU W gz np ps qs):kU (W.setCell ⟨gz,0,none⟩ (.bool nq)) gz nq ps qs∧gm (·=gz) W (W.setCell ⟨gz,0,none⟩ (.bool nq)):=by
 obtain⟨A,c,B,d,hb,hc,hd,hA,hB⟩:=h;have hch:gm (·=gz) W (W.setCell ⟨gz,0,none⟩ (.bool nq)):=(gm.refl (·=gz) W).setCell ⟨gz,0,none⟩ (.inl rfl) _;have hn:¬Ty W 131 gz:=Ha hb (by decide);refine⟨⟨A,c,B,d,?_,hc,hd,hA.qj hch (fun k hk _=>by subst hk;exact hn),hB.qj hch (fun k hk _=>by subst hk;exact hn)⟩,hch⟩;have h0:=aN hb 0 (.bool nq);simpa using h0
theorem LQ (gz gx:Nat)(np:Bool)(ps qs:List Int)(w:World)(v0 v1 v2 v3:Value)(hz:w.heap[gz]?=some (.cells #[v0,v1,v2,v3] 179 (0,0)))(hx:kU w gx np ps qs)(wp:Wd ps)(wq:Wd qs)(ZF:np=true→ps≠[]):
  Calls Tryz.prog 147 #[.pointer (some ⟨gz,0,none⟩),.pointer (some ⟨gx,0,none⟩)] w fun e w'=>e= .returned (.pointer (some ⟨gz,0,none⟩))∧kU w' gz (!np&& !ps.isEmpty) ps (iH qs)∧gm (·=gz) w w':=by
 have HX:=zM (zA hz (zA hx (zA wp wq)));clear hz hx wp wq;go_enter Tryz.func147,Tryz.ntmps147;go_wp2_with fail;refine(LU gz gx np ps qs _ v0 v1 v2 v3 HX.out.1 HX.out.2.1 HX.out.2.2.1 HX.out.2.2.2).mono ?_;rintro e w2 ⟨rfl,h1,h2⟩
 have hs:(np&& !ps.isEmpty)=np:=by
  cases np
  ·rfl
  ·simpa using ZF rfl
 rw[hs]at h1;have HS:=zM (zA h1 h2);obtain⟨A,c,B,d,hb,_⟩:=h1;have hg0:w2.cell? ⟨gz,0,none⟩=some (.bool np):=(aj hb 0).trans rfl;have hf0:=au hb 0;clear h2 hs hb
 by_cases hp:ps=[]
 ·have hnf:np=false:=by cases np;rfl;exact absurd hp (ZF rfl)
  subst hnf;have hsg:wC false ps=0:=by simp[wC,hp]
  have hres:(!false&& !ps.isEmpty)=false:=by simp[hp]
  have Ul:=zM hres;have hr:=xR (nq:=false) HS.out.1;have HR:=zM (zA hr.1 (HS.out.2.trans hr.2 (fun _ _ h=>h)));clear hr hres hp ZF;go_wp2_with fail;refine(jL gz 0 false ps _ HS.out.1.num).mono ?_;rintro e w3 ⟨rfl,rfl⟩;rw[hsg];clear hsg;go_wp2_with fail;go_ret;exact⟨rfl,by rw[Ul.out];exact HR.out.1,HR.out.2⟩
 ·cases np
  ·have hsg:wC false ps=1:=by simp[wC,hp]
   have hres:(!false&& !ps.isEmpty)=true:=by simp[hp]
   have Ul:=zM hres;have hr:=xR (nq:=true) HS.out.1;have HR:=zM (zA hr.1 (HS.out.2.trans hr.2 (fun _ _ h=>h)));clear hr hres hp ZF;go_wp2_with fail;refine(jL gz 0 false ps _ HS.out.1.num).mono ?_;rintro e w3 ⟨rfl,rfl⟩;rw[hsg];clear hsg;go_wp2_with fail;go_ret;exact⟨rfl,by rw[Ul.out];exact HR.out.1,HR.out.2⟩
  ·have hres:(!true&& !ps.isEmpty)=false:=rfl;have Ul:=zM hres;have hr:=xR (nq:=false) HS.out.1;have HR:=zM (zA hr.1 (HS.out.2.trans hr.2 (fun _ _ h=>h)));clear hr hres hp ZF;go_wp2_with fail;go_ret;exact⟨rfl,by rw[Ul.out];exact HR.out.1,HR.out.2⟩
theorem Xq (gz gx:Nat)(np:Bool)(ps qs:List Int)(w:World)(v0 v1 v2 v3:Value)(hz:w.heap[gz]?=some (.cells #[v0,v1,v2,v3] 179 (0,0)))(hx:kU w gx np ps qs)(wp:Wd ps)(wq:Wd qs)(hp:ps≠[]):
  Calls Tryz.prog 228 #[.pointer (some ⟨gz,0,none⟩),.pointer (some ⟨gx,0,none⟩)] w fun e w'=>∃rs ss,e= .returned (.pointer (some ⟨gz,0,none⟩))∧Low rs ss (iH qs) ps∧kU w' gz (np&& !rs.isEmpty) rs ss∧gm (·=gz) w w':=by
 have HX:=zM (zA hz (zA hx (zA wp (zA wq hp))));clear hz hx wp wq hp;go_enter Tryz.func228,Tryz.ntmps228;go_wp2_with fail;refine(o9 gx np ps qs _ HX.out.2.1 HX.out.2.2.2.1).mono ?_;rintro e w1 ⟨g1,rfl,h1,h2,h3⟩;have H1:=zM (zA h1 (zA h2 h3));clear h1 h2 h3;go_wp2_with fail;refine(Ei gx np ps qs _ (HX.out.2.1.below H1.out.2.2) HX.out.2.2.1).mono ?_;rintro e w2 ⟨g2,rfl,h1,h2,h3⟩;have hB2:=ah H1.out.2.2 H1.out.2.2.size h3;have H2:=zM (zA hB2 (zA (H1.out.2.1.below h3) h2));clear h1 h2 h3 hB2;go_wp2_with fail;refine(oU gz g1 0 g2 0 false (np&& !ps.isEmpty) (iH qs) ps _ v0 v1 v2 v3 ((H2.out.1.block gz (dV HX.out.1)).trans HX.out.1) H2.out.2.1.c H2.out.2.2.c (jT HX.out.2.2.2.1) HX.out.2.2.1 HX.out.2.2.2.2).mono ?_;rintro e w3 ⟨rs,ss,rfl,h1,h2,h3⟩;have H3:=zM (zA h1 (zA h2 h3));clear h1 h2 h3;go_wp2_with fail;go_ret;refine⟨rs,ss,rfl,H3.out.1,?_,gm.dU H2.out.1 H3.out.2.2⟩;have h:=H3.out.2.1
 have e:(false !=(np&& !ps.isEmpty))=np:=by
  have:=HX.out.2.2.2.2;cases np<;>simp[this]
 rw[e]at h;exact h
end Go.Proofs.YthbdjmopolpjmaaGreatDoor.C
