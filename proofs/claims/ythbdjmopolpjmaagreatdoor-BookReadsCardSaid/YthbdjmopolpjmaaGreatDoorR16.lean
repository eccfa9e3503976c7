/- Part 16 of the proof. -/
import Derived.Lib.AppendIntMem
import Derived.RowKitTokens
import Derived.Stop.Asserts
import Derived.Test.YthbdjmopolpjmaaGreatDoorR15
set_option linter.unusedVariables false
set_option linter.unusedSimpArgs false
set_option maxHeartbeats 8000000
set_option maxRecDepth 100000
namespace Go.Proofs.YthbdjmopolpjmaaGreatDoor.C
open Go.RowKit Go.Proofs.YthbdjmopolpjmaaGreatDoorW.PrintWords Go.Proofs.YthbdjmopolpjmaaGreatDoorW.PrintLast Go.Proofs.YthbdjmopolpjmaaGreatDoorW.PrintMore Go.Proofs.YthbdjmopolpjmaaGreatDoor.F Go.Proofs.YthbdjmopolpjmaaGreatDoor.M
attribute [local go_sem] max2_int min2_int max_two min_two max_three min_three max_four min_four
theorem qg.below {W W1:World}{g:Nat}{s:ByteArray}{i:Int}{bad:Bool}{f:Fm}(h:qg W g s i bad f)(hb:Below W.heap.size W W1):qg W1 g s i bad f:=(hb.block g (dV h)).trans h
theorem qU {xs:List Int}(h:Wd xs)(n:Nat)(hv:val 4294967296 xs≤10^n):xs.length≤n+1:=by
 rcases Nat.lt_or_ge (n+1) xs.length with hl|hl
 ·exfalso
  have hn:xs≠[]:=by intro e;rw[e]at hl;simp at hl
  have h1:=uQ (B:=4294967296) (by omega) h.1 h.2.1 hn;have h2:(10:Nat)^n≤4294967296^n:=Nat.pow_le_pow_left (by omega) n;have h3:(4294967296:Nat)^n<4294967296^(xs.length- 1):=Nat.pow_lt_pow_right (by omega) (by omega);have h4:(((10:Nat)^n:Nat):Int)<((4294967296^(xs.length- 1):Nat):Int):=Int.ofNat_lt.2 (Nat.lt_of_le_of_lt h2 h3);rw[Int.natCast_pow,Int.natCast_pow]at h4;exact absurd (Int.lt_of_lt_of_le h4 (Int.le_trans h1 hv)) (Int.lt_irrefl _)
 ·exact hl
def QX (x y:Int)(ps qs:List Int):Prop:=val 4294967296 ps*ja x y=x∧val 4294967296 qs*ja x y=y
def wF (f:Fm)(k:Int):Prop:=lU (eP f.exp)∧dv (eP f.exp)≤4096∧k=(if f.down=true then- dv (eP f.exp)else dv (eP f.exp))- f.behind
def xg (m:ByteArray)(k:Int):Prop:=600<m.size∨(k<0∧600<1- k)∨(0≤k∧(m.toList==[48])=false∧600<(m.size:Int)+k)
def abD (f:Fm)(w:World)(e:Ending)(w':World):Prop:=
 (e= .returned (.tuple #[.pointer none,.bool false])∧Below w.heap.size w w'∧∀k,wF f k→xg (eP f.m) k)∨
 ∃k g2 ps qs,e= .returned (.tuple #[.pointer (some ⟨g2,0,none⟩),.bool true])∧wF f k∧¬xg (eP f.m) k∧w.heap.size≤g2∧kU w' g2 false ps qs∧Wd ps∧Wd qs∧QX (dv (eP f.m)*10^k.toNat) (10^(-k).toNat) ps (iH qs)∧Below w.heap.size w w'
theorem GM (w:World)(g:Nat)(h:w.heap[g]?=some (.cells #[.bool false,.slice none 0 0,.bool false,.slice none 0 0] 179 (0,0))):kU w g false [] []:=⟨none,0,none,0,h,Nat.le_refl _,Nat.le_refl _,U.nil _,U.nil _⟩
theorem zG (s:ByteArray)(h:(s.toList==[])=true):eP s=⟨#[48]⟩:=by
 have h1:s.toList=[]:=by simpa using h
 rw[ByteArray.toList_eq]at h1;unfold eP;have h2:(lS s).toList=[]:=by rw[ByteArray.toList_eq];simp[lS,h1,Lib.trimLeftB]
 rw[if_pos (by rw[h2];rfl)]
theorem Sm:lU ⟨#[48]⟩:=⟨by decide,by decide,fun _=>by decide,fun c hc=>by
 have:bytesOf (⟨#[48]⟩:ByteArray)=[48]:=rfl;rw[this]at hc;simp at hc;subst hc
 decide⟩
theorem MK {m:ByteArray}(h:(m.toList==[48])=true):m=⟨#[48]⟩:=by
 have h1:m.toList=[48]:=by simpa using h
 rw[ByteArray.toList_eq]at h1;exact ByteArray.ext (Array.ext' h1)
theorem GG (y:Int)(h:0<y):QX 0 y [] (iH []):=by
 have hg:ja 0 y=y:=by unfold ja;rw[Int.toNat_zero,Nat.gcd_zero_left];omega
 refine⟨?_,?_⟩
 ·rw[show val 4294967296 []=0 from rfl,Int.zero_mul]
 ·rw[hg,show val 4294967296 (iH [])=1 from val_one,Int.one_mul]
theorem sW {a b:Nat}(h:a≤b):(10:Int)^a≤10^b:=by
 have h1:(10:Nat)^a≤10^b:=Nat.pow_le_pow_right (by omega) h;have h2:(((10:Nat)^a:Nat):Int)≤((10^b:Nat):Int):=Int.ofNat_le.2 h1;rw[Int.natCast_pow,Int.natCast_pow]at h2;exact h2
theorem o5 {s:ByteArray}{n:Nat}(h:Num (bytesOf s))(hs:s.size≤n):dv s≤10^n:=by
 have h1:=(jh h).2;rw[bytesOf_length]at h1;exact Int.le_trans (Int.le_of_lt h1) (sW hs)
theorem Iu (g:Nat)(s:ByteArray)(i:Int)(bad:Bool)(f:Fm)(w:World)(h:qg w g s i bad f)(hm:Num (bytesOf f.m))(hms:f.m.size≤65536)(hx:Num (bytesOf f.exp))(hb0:0≤f.behind)(hb1:f.behind≤65536):
  Calls Tryz.prog 146 #[.pointer (some ⟨g,0,none⟩)] w (abD f w):=by
 obtain⟨a3,a4,a5,a6,a7,a8,a9,a10,af⟩:=h.all;obtain⟨m,hmm⟩:∃m,eP f.m=m:=⟨_,rfl⟩;obtain⟨x,hxx⟩:∃x,eP f.exp=x:=⟨_,rfl⟩;have hc:=(kV f.m hm);rw[hmm]at hc;have HF:=zM (zA h (zA hmm (zA hxx (zA hc (zA hms (zA hb0 hb1))))));have hbm:∀W,Calls Tryz.prog 144 #[.string f.m] W fun e w'=>e= .returned (.string m)∧w'=W:=fun W=>by rw[←hmm];exact uX f.m W
 have hbx:∀W,Calls Tryz.prog 144 #[.string f.exp] W fun e w'=>e= .returned (.string x)∧w'=W:=fun W=>by rw[←hxx];exact uX f.exp W
 have HBM:=zM hbm;have HBX:=zM hbx;obtain⟨be,hbe⟩:∃b,(f.exp.toList==[])=b:=⟨_,rfl⟩;have HBE:=zM hbe;clear h hm hms hx hb0 hb1 hmm hxx hc hbm hbx a3 a8 a9 a10 af;go_enter Tryz.func146,Tryz.ntmps146;go_wp2_with fail;refine(HBM.out _).mono ?_;rintro e w1 ⟨rfl,hw⟩;rw[hw];clear hw;go_upto_if 18 with(fail);go_cut [5] (fun v5 wc=>∃e:Int,v5= .int .i64 e∧Aside0 (lU x∧dv x≤4096∧e=(if f.down=true then- dv x else dv x)∧Below w.heap.size w wc))
 case first=>
  cases be
  ·go_wp2_with fail;refine(HBX.out _).mono ?_;rintro e w1 ⟨rfl,hw⟩;rw[hw];clear hw;go_wp2_with fail;refine(Lr x _).mono ?_;rintro e w2 ⟨v,er,rfl,h1,h2⟩;have hF:=HF.out.1.below h2;obtain⟨b3,b4,b5,b6,b7,b8,b9,b10,bf⟩:=hF.all;have HN:=zM (zA h1 h2);clear h1 h2 hF b3 b4 b5 b6 b8 b9 b10 bf
   by_cases her:er=0
   ·subst her
    by_cases hv:4096<v
    ·have q1:=zT hv;have HV:=zM hv;clear hv;go_wp2_with fail;go_ret2;refine .inl ⟨rfl,HN.out.2,fun k hk=>?_⟩
     exfalso
     have h3:=hk.1;have h4:=hk.2.1;rw[HF.out.2.2.1]at h3 h4;have h5:=(HN.out.1.2.2.1 ⟨h3,h4⟩).1;have h6:=HV.out;omega
    ·have q1:=zF hv
     have hok:lU x∧dv x≤4096:=by
      apply Classical.byContradiction;intro hno;rcases HN.out.1.2.2.2 hno with h3|h3
      ·exact h3 rfl
      ·exact hv h3
     have hvd:=(HN.out.1.2.2.1 hok).1;have hv0:=HN.out.1.1;have HV:=zM (zA hok hvd);have hcv:IntKind.i64.wrap v=v:=by rw[dL,fD (by omega) (by omega)]
     have hcv2:wrap64 v=v:=fD (by omega) (by omega);have ZE:wrap64 (-v)= -v:=fD (by omega) (by omega);have asb:IntKind.i64.wrap (-v)= -v:=by rw[dL];exact ZE
     clear hv hok hvd hv0;cases hdn:f.down
     ·rw[hdn]at b7;have HDN:=zM hdn;clear hdn;go_wp2_with fail;go_meet
      case rel=>exact⟨v,rfl,⟨HV.out.1.1,HV.out.1.2,by rw[if_neg (by rw[HDN.out];decide)];exact HV.out.2,HN.out.2⟩⟩
     ·rw[hdn]at b7;have HDN:=zM hdn;clear hdn;go_wp2_with fail;go_meet
      case rel=>exact⟨-v,rfl,⟨HV.out.1.1,HV.out.1.2,by rw[if_pos HDN.out,HV.out.2],HN.out.2⟩⟩
   ·have q0:(er !=0)=true:=bne_iff_ne.mpr her;have HER:=zM her;clear her;go_wp2_with fail;go_ret2;refine .inl ⟨rfl,HN.out.2,fun k hk=>?_⟩
    exfalso
    have h3:=hk.1;have h4:=hk.2.1;rw[HF.out.2.2.1]at h3 h4;exact HER.out (HN.out.1.2.2.1 ⟨h3,h4⟩).2
  ·go_wp2_with fail;go_meet
   case rel=>
    have hx0:x=⟨#[48]⟩:=by
     rw[←HF.out.2.2.1];exact zG f.exp HBE.out
    refine⟨0,rfl,⟨?_,?_,?_,Below.refl _ _⟩⟩
    ·rw[hx0];exact Sm
    ·rw[hx0];decide
    ·rw[hx0,show dv (⟨#[48]⟩:ByteArray)=0 from rfl];cases f.down<;>rfl
 case rest=>
  obtain⟨e,rfl,HE⟩:=hcut;have hF:=HF.out.1.below HE.out.2.2.2;obtain⟨b3,b4,b5,b6,b7,b8,b9,b10,bf⟩:=hF.all;obtain⟨k,hk⟩:∃k,e- f.behind=k:=⟨_,rfl⟩;have Na:0≤dv x:=fP HE.out.1.canon
  have hkb: -70000≤k∧k≤4096:=by
   have h1:=HE.out.2.1;have h2:=HE.out.2.2.1;have h3:=HF.out.2.2.2.2.2;cases hdn:f.down
   ·rw[hdn,if_neg (by decide)]at h2;omega
   ·rw[hdn,if_pos rfl]at h2;omega
  have hkw:wrap64 (e- f.behind)=k:=by rw[hk];exact fD (by omega) (by omega)
  have as5:IntKind.i64.wrap (e- f.behind)=k:=by rw[dL];exact hkw
  have hdo:wF f k:=by
   refine⟨?_,?_,?_⟩
   ·rw[HF.out.2.2.1];exact HE.out.1
   ·rw[HF.out.2.2.1];exact HE.out.2.1
   ·rw[HF.out.2.2.1,←HE.out.2.2.1];exact hk.symm
  have hw1:wrap64 (1- k)=1- k:=fD (by omega) (by omega);have hw2:IntKind.i64.wrap (1- k)=1- k:=by rw[dL];exact hw1
  have hsz:m.size≤65537:=by have:=HF.out.2.2.2.1.2.2.1;have:=HF.out.2.2.2.2.1;omega
  have hw3:wrap64 ((m.size:Int)+k)=(m.size:Int)+k:=fD (by omega) (by omega);have hw4:IntKind.i64.wrap ((m.size:Int)+k)=(m.size:Int)+k:=by rw[dL];exact hw3
  have HK:=zM (zA hdo (zA hkb hsz));have abp:∀k2,wF f k2→k2=k:=fun k2 h2=>h2.2.2.trans hdo.2.2.symm
  have HU:=zM abp;clear hF hk Na hdo hsz abp b3 b4 b6 b7 b8 b9 b10 bf
  by_cases h:600<m.size
  ·have C1q:=zT h;have C1r:decide (600<(m.size:Int))=true:=decide_eq_true (by omega);have C1:=zM h;clear h;go_wp2_with fail;go_ret2;refine .inl ⟨rfl,HE.out.2.2.2,fun k2 h2=>?_⟩;rw[HU.out k2 h2,HF.out.2.1];exact .inl C1.out
  ·have C1q:=zF h;have C1r:decide (600<(m.size:Int))=false:=decide_eq_false (by omega);have C1:=zM h;clear h
   by_cases h:k<0
   ·have C2q:=zT h;have C2:=zM h;clear h;have C4q:decide (0≤k)=false:=decide_eq_false (by have:=C2.out;omega)
    by_cases h:600<1- k
    ·have C3q:=zT h;have C3:=zM h;clear h;go_wp2_with fail;go_ret2;refine .inl ⟨rfl,HE.out.2.2.2,fun k2 h2=>?_⟩;rw[HU.out k2 h2,HF.out.2.1];exact .inr (.inl ⟨C2.out,C3.out⟩)
    ·have C3q:=zF h;have C3:=zM h;clear h;obtain⟨bm,hbm⟩:∃b,(m.toList==[48])=b:=⟨_,rfl⟩;have M0:=zM hbm;cases bm
     ·have M1:=M0;have hm6:m.size≤600:=by have:=C1.out;omega
      have hk6: -5000≤k∧k≤5000:=by have:=C3.out;have:=C2.out;omega
      have QV:=zM (zA hm6 hk6);obtain⟨z,hz⟩:∃z,wc.heap.size=z:=⟨_,rfl⟩;obtain⟨W1,hW1⟩:∃W1,wc.alloc (.cells #[.bool false,.slice none 0 0,.bool false,.slice none 0 0] 179)=W1:=⟨_,rfl⟩;have hs1:W1.heap.size=z+1:=by rw[←hW1,←hz];simp
      have hz1:W1.heap[z]?=some (.cells #[.bool false,.slice none 0 0,.bool false,.slice none 0 0] 179 (0,0)):=by rw[←hW1,←hz];exact bZ _ _
      have hB1:Below w.heap.size w W1:=by rw[←hW1];exact ah HE.out.2.2.2 HE.out.2.2.2.size (ag (Below.refl _ _) _)
      have hwz:w.heap.size≤z:=by rw[←hz];exact HE.out.2.2.2.size
      obtain⟨W2,hW2⟩:∃W2,W1.alloc (.cells #[.bool false,.slice none 0 0,.bool false,.slice none 0 0] 179)=W2:=⟨_,rfl⟩;have hz2:W2.heap[z]?=some (.cells #[.bool false,.slice none 0 0,.bool false,.slice none 0 0] 179 (0,0)):=by rw[←hW2];exact aT hz1 (ag (Below.refl _ _) _)
      have hy2:W2.heap[z+1]?=some (.cells #[.bool false,.slice none 0 0,.bool false,.slice none 0 0] 179 (0,0)):=by rw[←hW2,←hs1];exact bZ _ _
      have hB2:Below w.heap.size w W2:=by rw[←hW2];exact ah hB1 hB1.size (ag (Below.refl _ _) _)
      have H2:=zM (zA hz2 (zA hy2 (zA hB2 hwz)));clear hm6 hk6 hz1 hB1 hz2 hy2 hB2 hwz;go_wp2_with fail;refine(rP m _ HF.out.2.2.2.1.1.1 (by have:=QV.out.1;omega) HF.out.2.2.2.1.1.2.2).mono ?_;rintro e3 w3 ⟨g3,xs,rfl,h1,h2,h3,h4,h5⟩;have hz3:=aT H2.out.1 h5;have hy3:=aT H2.out.2.1 h5;have H3:=zM (zA h2 (zA h3 (zA h4 (zA hz3 (zA hy3 (ah H2.out.2.2.1 H2.out.2.2.1.size h5))))));clear h1 h2 h3 h4 h5 hz3 hy3;go_wp2_with fail;refine(qI (z+1) g3 false xs _ _ _ _ _ H3.out.2.2.2.2.1 H3.out.1 H3.out.2.1).mono ?_;rintro e4 w4 ⟨rfl,h1,h2⟩;have hz4:=(h2.block z (dV H3.out.2.2.2.1) (by omega)).trans H3.out.2.2.2.1;have H4:=zM (zA h1 (zA hz4 (Below.qj H3.out.2.2.2.2.2 h2 (Nat.le_trans H2.out.2.2.2 (Nat.le_succ z)))));clear h1 h2 hz4;go_wp2_with fail;refine(MH k _ QV.out.2.1 QV.out.2.2).mono ?_;rintro e5 w5 ⟨g4,rs,ss,rfl,h1,h2,h3,h4,h5,h6,h7⟩;have H5:=zM (zA h2 (zA (zA h3 h4) (zA h5 (zA h6 (zA (H4.out.1.below h7) (zA (aT H4.out.2.1 h7) (ah H4.out.2.2 H4.out.2.2.size h7)))))));clear h1 h2 h3 h4 h5 h6 h7;go_wp2_with fail;have hlx:xs.length≤601:=qU H3.out.2.1 600 (by rw[H3.out.2.2.1];exact o5 HF.out.2.2.2.1.1.2.2 QV.out.1);have hlr:rs.length≤5001:=qU H5.out.2.1.1 5000 (by rw[H5.out.2.2.1];exact sW (by have:=QV.out.2;omega));have hls:(iH ss).length≤5001:=qU (jT H5.out.2.1.2) 5000 (by rw[H5.out.2.2.2.1];exact sW (by have:=QV.out.2;omega));have hd1:(iH [1]).length=1:=rfl;refine(Bz z (z+1) g4 false false xs [1] rs ss _ _ _ _ _ H5.out.2.2.2.2.2.1 H5.out.2.2.2.2.1 H5.out.1 H3.out.2.1 uS H5.out.2.1.1 H5.out.2.1.2 (by omega) (by omega)).mono ?_;rintro e6 w6 ⟨ms,ns,us,vs,rfl,h1,h2,h3,h4,h5,h6,h7⟩;have H6:=zM (zA h3 (zA h4 (zA h5 (zA h6 (Below.qj H5.out.2.2.2.2.2.2 h7 H2.out.2.2.2)))));clear h1 h2 h3 h4 h5 h6 h7 hlx hlr hls hd1;go_wp2_with fail;go_ret2;refine .inr ⟨k,z,us,vs,rfl,HK.out.1,by rw[HF.out.2.1];exact(by rintro(h|h|h);exact absurd h (by have:=C1.out;omega);exact absurd h.2 (by have:=C3.out;omega);exact absurd h.1 (by have:=C2.out;omega)),H2.out.2.2.2,H6.out.2.2.2.1,H6.out.2.2.1.1,H6.out.2.2.1.2.1,?_,H6.out.2.2.2.2⟩;have hlow:=H6.out.2.2.1;have e1:=H6.out.1;have e2:=H6.out.2.1;rw[H3.out.2.2.1,H5.out.2.2.1]at e1;rw[show val 4294967296 (iH [1])=1 from val_one,Int.one_mul,H5.out.2.2.2.1]at e2;rw[HF.out.2.1,show iH vs=vs from if_neg hlow.2.2.1,←e1,←e2];exact⟨hlow.2.2.2.1,hlow.2.2.2.2⟩
     ·have M1:=M0;go_wp2_with fail;go_ret2;have hm0:dv m=0:=by rw[MK M0.out];rfl
      refine .inr ⟨k,wc.heap.size,[],[],rfl,HK.out.1,by rw[HF.out.2.1];exact(by rintro(h|h|h);exact absurd h (by have:=C1.out;omega);exact absurd h.2 (by have:=C3.out;omega);exact absurd h.1 (by have:=C2.out;omega)),HE.out.2.2.2.size,GM _ _ (bZ _ _),EK,EK,?_,ah HE.out.2.2.2 HE.out.2.2.2.size (ag (Below.refl _ _) _)⟩;rw[HF.out.2.1,hm0,Int.zero_mul];exact GG _ (Int.pow_pos (by omega))
   ·have C2q:=zF h;have C2:=zM h;clear h;have C4q:decide (0≤k)=true:=decide_eq_true (by have:=C2.out;omega);obtain⟨bm,hbm⟩:∃b,(m.toList==[48])=b:=⟨_,rfl⟩;have M0:=zM hbm;cases bm
    ·have M1:=M0
     by_cases h:600<(m.size:Int)+k
     ·have C6q:=zT h;have C6:=zM h;clear h;go_wp2_with fail;go_ret2;refine .inl ⟨rfl,HE.out.2.2.2,fun k2 h2=>?_⟩;rw[HU.out k2 h2,HF.out.2.1];exact .inr (.inr ⟨by have:=C2.out;omega,M0.out,C6.out⟩)
     ·have C6q:=zF h;have C6:=zM h;clear h;have hm6:m.size≤600:=by have:=C1.out;omega
      have hk6: -5000≤k∧k≤5000:=by have:=C6.out;have:=C2.out;omega
      have QV:=zM (zA hm6 hk6);obtain⟨z,hz⟩:∃z,wc.heap.size=z:=⟨_,rfl⟩;obtain⟨W1,hW1⟩:∃W1,wc.alloc (.cells #[.bool false,.slice none 0 0,.bool false,.slice none 0 0] 179)=W1:=⟨_,rfl⟩;have hs1:W1.heap.size=z+1:=by rw[←hW1,←hz];simp
      have hz1:W1.heap[z]?=some (.cells #[.bool false,.slice none 0 0,.bool false,.slice none 0 0] 179 (0,0)):=by rw[←hW1,←hz];exact bZ _ _
      have hB1:Below w.heap.size w W1:=by rw[←hW1];exact ah HE.out.2.2.2 HE.out.2.2.2.size (ag (Below.refl _ _) _)
      have hwz:w.heap.size≤z:=by rw[←hz];exact HE.out.2.2.2.size
      obtain⟨W2,hW2⟩:∃W2,W1.alloc (.cells #[.bool false,.slice none 0 0,.bool false,.slice none 0 0] 179)=W2:=⟨_,rfl⟩;have hz2:W2.heap[z]?=some (.cells #[.bool false,.slice none 0 0,.bool false,.slice none 0 0] 179 (0,0)):=by rw[←hW2];exact aT hz1 (ag (Below.refl _ _) _)
      have hy2:W2.heap[z+1]?=some (.cells #[.bool false,.slice none 0 0,.bool false,.slice none 0 0] 179 (0,0)):=by rw[←hW2,←hs1];exact bZ _ _
      have hB2:Below w.heap.size w W2:=by rw[←hW2];exact ah hB1 hB1.size (ag (Below.refl _ _) _)
      have H2:=zM (zA hz2 (zA hy2 (zA hB2 hwz)));clear hm6 hk6 hz1 hB1 hz2 hy2 hB2 hwz;go_wp2_with fail;refine(rP m _ HF.out.2.2.2.1.1.1 (by have:=QV.out.1;omega) HF.out.2.2.2.1.1.2.2).mono ?_;rintro e3 w3 ⟨g3,xs,rfl,h1,h2,h3,h4,h5⟩;have hz3:=aT H2.out.1 h5;have hy3:=aT H2.out.2.1 h5;have H3:=zM (zA h2 (zA h3 (zA h4 (zA hz3 (zA hy3 (ah H2.out.2.2.1 H2.out.2.2.1.size h5))))));clear h1 h2 h3 h4 h5 hz3 hy3;go_wp2_with fail;refine(qI (z+1) g3 false xs _ _ _ _ _ H3.out.2.2.2.2.1 H3.out.1 H3.out.2.1).mono ?_;rintro e4 w4 ⟨rfl,h1,h2⟩;have hz4:=(h2.block z (dV H3.out.2.2.2.1) (by omega)).trans H3.out.2.2.2.1;have H4:=zM (zA h1 (zA hz4 (Below.qj H3.out.2.2.2.2.2 h2 (Nat.le_trans H2.out.2.2.2 (Nat.le_succ z)))));clear h1 h2 hz4;go_wp2_with fail;refine(MH k _ QV.out.2.1 QV.out.2.2).mono ?_;rintro e5 w5 ⟨g4,rs,ss,rfl,h1,h2,h3,h4,h5,h6,h7⟩;have H5:=zM (zA h2 (zA (zA h3 h4) (zA h5 (zA h6 (zA (H4.out.1.below h7) (zA (aT H4.out.2.1 h7) (ah H4.out.2.2 H4.out.2.2.size h7)))))));clear h1 h2 h3 h4 h5 h6 h7;go_wp2_with fail;have hlx:xs.length≤601:=qU H3.out.2.1 600 (by rw[H3.out.2.2.1];exact o5 HF.out.2.2.2.1.1.2.2 QV.out.1);have hlr:rs.length≤5001:=qU H5.out.2.1.1 5000 (by rw[H5.out.2.2.1];exact sW (by have:=QV.out.2;omega));have hls:(iH ss).length≤5001:=qU (jT H5.out.2.1.2) 5000 (by rw[H5.out.2.2.2.1];exact sW (by have:=QV.out.2;omega));have hd1:(iH [1]).length=1:=rfl;refine(Bz z (z+1) g4 false false xs [1] rs ss _ _ _ _ _ H5.out.2.2.2.2.2.1 H5.out.2.2.2.2.1 H5.out.1 H3.out.2.1 uS H5.out.2.1.1 H5.out.2.1.2 (by omega) (by omega)).mono ?_;rintro e6 w6 ⟨ms,ns,us,vs,rfl,h1,h2,h3,h4,h5,h6,h7⟩;have H6:=zM (zA h3 (zA h4 (zA h5 (zA h6 (Below.qj H5.out.2.2.2.2.2.2 h7 H2.out.2.2.2)))));clear h1 h2 h3 h4 h5 h6 h7 hlx hlr hls hd1;go_wp2_with fail;go_ret2;refine .inr ⟨k,z,us,vs,rfl,HK.out.1,by rw[HF.out.2.1];exact(by rintro(h|h|h);exact absurd h (by have:=C1.out;omega);exact absurd h.1 (by have:=C2.out;omega);exact absurd h.2.2 (by have:=C6.out;omega)),H2.out.2.2.2,H6.out.2.2.2.1,H6.out.2.2.1.1,H6.out.2.2.1.2.1,?_,H6.out.2.2.2.2⟩;have hlow:=H6.out.2.2.1;have e1:=H6.out.1;have e2:=H6.out.2.1;rw[H3.out.2.2.1,H5.out.2.2.1]at e1;rw[show val 4294967296 (iH [1])=1 from val_one,Int.one_mul,H5.out.2.2.2.1]at e2;rw[HF.out.2.1,show iH vs=vs from if_neg hlow.2.2.1,←e1,←e2];exact⟨hlow.2.2.2.1,hlow.2.2.2.2⟩
    ·have M1:=M0;go_wp2_with fail;go_ret2;have hm0:dv m=0:=by rw[MK M0.out];rfl
     refine .inr ⟨k,wc.heap.size,[],[],rfl,HK.out.1,by rw[HF.out.2.1];exact(by rintro(h|h|h);exact absurd h (by have:=C1.out;omega);exact absurd h.1 (by have:=C2.out;omega);exact absurd (M0.out.symm.trans h.2.1) (by decide)),HE.out.2.2.2.size,GM _ _ (bZ _ _),EK,EK,?_,ah HE.out.2.2.2 HE.out.2.2.2.size (ag (Below.refl _ _) _)⟩;rw[HF.out.2.1,hm0,Int.zero_mul];exact GG _ (Int.pow_pos (by omega))
end Go.Proofs.YthbdjmopolpjmaaGreatDoor.C
namespace Go.Proofs.YthbdjmopolpjmaaGreatDoor.C
open Go.RowKit Go.Proofs.YthbdjmopolpjmaaGreatDoorW.PrintWords Go.Proofs.YthbdjmopolpjmaaGreatDoorW.PrintLast Go.Proofs.YthbdjmopolpjmaaGreatDoorW.PrintMore Go.Proofs.YthbdjmopolpjmaaGreatDoor.F Go.Proofs.YthbdjmopolpjmaaGreatDoor.M
theorem takeWhile_take {α:Type}(p:α→Bool):∀l:List α,l.take (l.takeWhile p).length=l.takeWhile p
 | []=>rfl
 |a::l=>by
  rw[List.takeWhile_cons];cases h:p a
  ·rfl
  ·simp only[if_true,List.length_cons,List.take_succ_cons];rw[takeWhile_take p l]
theorem wX {α:Type}(p:α→Bool):∀l:List α,∀x∈l.takeWhile p,p x=true
 | [],x,h=>by cases h
 |a::l,x,h=>by
  rw[List.takeWhile_cons]at h;cases hp:p a
  ·rw[hp]at h;cases h
  ·rw[hp]at h;rcases List.mem_cons.1 h with h|h
   ·rw[h];exact hp
   ·exact wX p l x h
theorem Dj (s:ByteArray)(i:Nat)(hi:i≤s.size):Num (bytesOf (s.extract i (eG s i))):=by
 have h1:=lD s i hi;rw[nZ _ _ _ h1];intro c hc
 have e:((bytesOf s).take (eG s i)).drop i=((bytesOf s).drop i).takeWhile isD:=by
  rw[List.drop_take,show eG s i- i=(((bytesOf s).drop i).takeWhile isD).length from by unfold eG;omega];exact takeWhile_take _ _
 rw[e]at hc;have h2:=wX isD _ c hc;exact of_decide_eq_true h2
theorem num_nil:Num (bytesOf (⟨#[]⟩:ByteArray)):=by
 intro c hc;have:bytesOf (⟨#[]⟩:ByteArray)=[]:=rfl;rw[this]at hc;cases hc
theorem OE {a b:ByteArray}(ha:Num (bytesOf a))(hb:Num (bytesOf b)):Num (bytesOf (a++b)):=by
 have e:bytesOf (a++b)=bytesOf a++bytesOf b:=by simp[bytesOf,ByteArray.data_append]
 rw[e];intro c hc;rcases List.mem_append.1 hc with h|h
 ·exact ha c h
 ·exact hb c h
def Good (s:ByteArray)(f:Fm):Prop:=Num (bytesOf f.m)∧f.m.size≤65536∧Num (bytesOf f.exp)∧0≤f.behind∧f.behind≤65536∧Num (bytesOf f.den)∧f.den.size≤65536
theorem nK {set s:ByteArray}{i:Nat}(h:hits set s i=true):i<s.size:=by
 unfold hits at h;rw[Bool.and_eq_true]at h;exact of_decide_eq_true h.1
theorem Gq {s:ByteArray}{neg:Bool}{m:ByteArray}{behind i:Nat}{f:Fm}(h:nS s neg m behind i=some f)(hi:i≤s.size)(hs:s.size≤65536)(hm:Num (bytesOf m))(hm2:m.size≤65536)(hb:behind≤65536):Good s f:=by
 unfold nS at h
 by_cases h1:hits ⟨#[101,69]⟩ s i=true
 ·rw[if_pos h1]at h;have hl:=nK h1;obtain⟨j,hj⟩:∃j,(if hits ⟨#[43,45]⟩ s (i+1)=true then i+2 else i+1)=j:=⟨_,rfl⟩
  have hjs:j≤s.size:=by
   rw[←hj];split
   ·next h2=>have:=nK h2;omega
   ·omega
  simp only[hj]at h;split at h
  ·cases h
  ·injection h with h;subst h;exact⟨hm,hm2,Dj s j hjs,by show(0:Int)≤(behind:Int);omega,by show(behind:Int)≤65536;omega,num_nil,Nat.zero_le _⟩
 ·rw[if_neg h1]at h;split at h
  ·cases h
  ·injection h with h;subst h;exact⟨hm,hm2,num_nil,by show(0:Int)≤(behind:Int);omega,by show(behind:Int)≤65536;omega,num_nil,Nat.zero_le _⟩
theorem ext_size (s:ByteArray)(i:Nat)(hi:i≤s.size):(s.extract i (eG s i)).size=eG s i- i:=by
 have:=lD s i hi;rw[ByteArray.size_extract];omega
theorem su {s:ByteArray}{f:Fm}(h:gp s=some f)(hs:s.size≤65536):Good s f:=by
 obtain⟨j,hj⟩:∃j,(if hits ⟨#[45]⟩ s 0=true then 1 else 0)=j:=⟨_,rfl⟩
 have hjs:j≤s.size:=by
  rw[←hj];split
  ·next h2=>have:=nK h2;omega
  ·omega
 have he:=lD s j hjs;have hn:=Dj s j hjs;have hz:=ext_size s j hjs;unfold gp at h;simp only[hj]at h
 by_cases h1:eG s j=j
 ·rw[if_pos h1]at h;cases h
 ·rw[if_neg h1]at h
  by_cases h2:hits ⟨#[47]⟩ s (eG s j)=true
  ·rw[if_pos h2]at h;have hl:=nK h2;split at h
   ·cases h
   ·injection h with h;subst h;have hz2:=ext_size s (eG s j+1) hl;have h6:=lD s (eG s j+1) hl;exact⟨hn,by show(s.extract j (eG s j)).size≤65536;omega,num_nil,Int.le_refl _,by show(0:Int)≤65536;omega,Dj s _ hl,by show(s.extract (eG s j+1) (eG s (eG s j+1))).size≤65536;omega⟩
  ·rw[if_neg h2]at h
   by_cases h3:hits ⟨#[46]⟩ s (eG s j)=true
   ·rw[if_pos h3]at h;have hl:=nK h3;have hz2:=ext_size s (eG s j+1) hl;have h6:=lD s (eG s j+1) hl;split at h
    ·cases h
    ·exact Gq h h6 hs (OE hn (Dj s _ hl)) (by rw[ByteArray.size_append];omega) (by omega)
   ·rw[if_neg h3]at h;exact Gq h he hs hn (by omega) (by omega)
def Ik (neg:Bool)(x y:Int)(n d:ByteArray)(er:Int):Prop:=∃t d2,Ib x y t d2∧((600<t.size∨600<d2.size)∧n=⟨#[]⟩∧d=⟨#[]⟩∧er=7∨¬(600<t.size∨600<d2.size)∧n=signed (neg&&decide (x≠0)) t∧d=d2∧er=0)
def Hm (f:Fm)(er:Int):Prop:=
 (f.Ce=true∧((eP f.den).toList==[48])=true∧er=8)∨(f.Ce=true∧((eP f.den).toList==[48])=false∧(600<(eP f.m).size∨600<(eP f.den).size)∧er=7)∨
 (f.Ce=false∧(∀k,wF f k→xg (eP f.m) k)∧er=7)
def FC (f:Fm)(x y:Int):Prop:=
 (f.Ce=true∧((eP f.den).toList==[48])=false∧¬(600<(eP f.m).size∨600<(eP f.den).size)∧x=dv (eP f.m)∧y=dv (eP f.den))∨
 (f.Ce=false∧∃k,wF f k∧¬xg (eP f.m) k∧x=dv (eP f.m)*10^k.toNat∧y=10^(-k).toNat)
def qZ (s n d:ByteArray)(er:Int):Prop:=
 (65536<s.size∧n=⟨#[]⟩∧d=⟨#[]⟩∧er=4)∨
 (s.size≤65536∧gp s=none∧n=⟨#[]⟩∧d=⟨#[]⟩∧er=3)∨
 (s.size≤65536∧∃f,gp s=some f∧((Hm f er∧n=⟨#[]⟩∧d=⟨#[]⟩)∨∃x y,FC f x y∧Ik f.neg x y n d er))
theorem Qh {m:ByteArray}{k:Int}(h:¬xg m k)(hm:Canon m):0≤dv m*10^k.toNat∧dv m*10^k.toNat≤10^1200∧(0:Int)<10^(-k).toNat∧(10:Int)^(-k).toNat≤10^600:=by
 have h0:=fP hm;have hp:(0:Int)<10^k.toNat:=Int.pow_pos (by omega)
 have hsz:m.size≤600:=by
  apply Classical.byContradiction;intro hc;exact h (.inl (by omega))
 have hv:=o5 hm.2.2 hsz
 have hk: -k≤600:=by
  apply Classical.byContradiction;intro hc;exact h (.inr (.inl ⟨by omega,by omega⟩))
 refine⟨Int.mul_nonneg h0 (Int.le_of_lt hp),?_,Int.pow_pos (by omega),sW (by omega)⟩
 by_cases hz:dv m=0
 ·rw[hz,Int.zero_mul];exact Int.le_of_lt (Int.pow_pos (by omega))
 ·have hne:(m.toList==[48])=false:=by
   cases hh:(m.toList==[48])with
   |false=>rfl
   |true=>exact absurd (by rw[MK hh];rfl) hz
  have hk2:k≤600:=by
   apply Classical.byContradiction;intro hc;exact h (.inr (.inr ⟨by omega,hne,by omega⟩))
  have h2:dv m*10^k.toNat≤10^600*10^600:=Int.mul_le_mul hv (sW (by omega)) (Int.le_of_lt hp) (Int.le_of_lt (Int.pow_pos (by omega)));rw[←Int.pow_add]at h2;exact h2
theorem QA {x y:Int}{ps qs:List Int}(h:QX x y ps qs)(hx:0≤x)(hy:0<y)(hp:0≤val 4294967296 ps)(hq:0≤val 4294967296 qs):val 4294967296 ps≤x∧val 4294967296 qs≤y:=by
 have hg:=qy (a:=x) hy;have h1:=Int.mul_le_mul_of_nonneg_left (show 1≤ja x y by omega) hp;have h2:=Int.mul_le_mul_of_nonneg_left (show 1≤ja x y by omega) hq;rw[Int.mul_one]at h1 h2;rw[h.1]at h1;rw[h.2]at h2;exact⟨h1,h2⟩
end Go.Proofs.YthbdjmopolpjmaaGreatDoor.C
namespace Go.Proofs.YthbdjmopolpjmaaGreatDoor.C
open Go.RowKit Go.Extern.Stop Go.Stop Go.Extern Go.Proofs.YthbdjmopolpjmaaGreatDoorW.PrintWords Go.Proofs.YthbdjmopolpjmaaGreatDoorW.PrintLast Go.Proofs.YthbdjmopolpjmaaGreatDoorW.PrintMore Go.Proofs.YthbdjmopolpjmaaGreatDoor.F Go.Proofs.YthbdjmopolpjmaaGreatDoor.M
namespace As
theorem methodKind (h:Value)(w:World):(Go.method 490 182 (.agg #[h]) "Kind").run Tryz.prog w= .ok (281,h) w:=by kernel_rfl
theorem methodElem (h:Value)(w:World):(Go.method 490 182 (.agg #[h]) "Elem").run Tryz.prog w= .ok (295,.agg #[h]) w:=by kernel_rfl
theorem methodImplements (h:Value)(w:World):(Go.method 490 182 (.agg #[h]) "Implements").run Tryz.prog w= .ok (296,.agg #[h]) w:=by kernel_rfl
theorem methodAssignableTo (h:Value)(w:World):(Go.method 490 182 (.agg #[h]) "AssignableTo").run Tryz.prog w= .ok (293,.agg #[h]) w:=by kernel_rfl
theorem rD (h:Value)(w:World):(Go.method 490 182 (.agg #[h]) "Comparable").run Tryz.prog w= .ok (294,.agg #[h]) w:=by kernel_rfl
theorem rlm (z:Sem Value)(f:TypeId→Addr→Nat→Nat→Sem Value)(v:Value):
  ReflectliteValue.method z f #[v]=(do match←ReflectliteValue.parts v with|none=>z|some (t,a,fl)=>f t a fl (fl%32)):=rfl
theorem rls (v x:Value):ReflectliteValue.set #[v,x]=(do
  let(some (dst,a,fl),some (src,b,_)):=(←ReflectliteValue.parts v,←ReflectliteValue.parts x)
   |unsupported (.noEntry "extern/(internal/reflectlite.Value).Set.zeroValue")
  if fl/ReflectliteValue.flagAddr%2==0 then unsupported (.noEntry "extern/(internal/reflectlite.Value).Set.unaddressable")
  let val←loadVar src b
  if←Rtype.directlyAssignable dst src then storeVar dst a val
  else if←Rtype.implements dst src then
   if(←Rtype.kind src)==20 then
    match val with
    | .nilIface=>unsupported (.noEntry "extern/reflectlite: a nil value of one interface type handed on as a value of another")
    |_=>storeVar dst a val
   else storeVar dst a (.iface src val)
  else panicString ("reflectlite.Set: value of type " ++(←Rtype.spelt src)++ " is not assignable to type " ++(←Rtype.spelt dst))
  pure (.tuple #[])):=rfl
theorem TD (t:Addr)(w:World):(ReflectliteValue.unpack (.iface 86 (.pointer (some t)))).run Tryz.prog w
  = .ok (.agg #[.pointer (some ⟨10,86,none⟩),.pointer (some ⟨w.heap.size,0,none⟩),.int .u64 150]) (w.alloc (.cells #[.pointer (some t)] 86)):=by kernel_rfl
theorem type86 (a:Addr)(w:World):(ReflectliteValue.methodAny (ReflectliteValue.valueError "reflectlite.Value.Type" 0) (fun t _ _ _=>ReflectliteType.toType t) #[.agg #[.pointer (some ⟨10,86,none⟩),.pointer (some a),.int .u64 150]]).run Tryz.prog w
  = .ok (.iface 182 (.agg #[.pointer (some ⟨10,86,none⟩)])) w:=by kernel_rfl
theorem adq (w:World):((ReflectliteType.abiMethod fun t=>(fun a:Nat=>Value.int IntKind.u8 (a:Int))<$>Rtype.kind t) #[.pointer (some ⟨10,86,none⟩)]).run Tryz.prog w= .ok (.int .u8 22) w:=by kernel_rfl
theorem ado (w:World):((ReflectliteType.abiMethod fun t=>(fun a:Nat=>Value.int IntKind.u8 (a:Int))<$>Rtype.kind t) #[.pointer (some ⟨10,49,none⟩)]).run Tryz.prog w= .ok (.int .u8 25) w:=by kernel_rfl
theorem QD (a:Addr)(w:World):(ReflectliteValue.parts (.agg #[.pointer (some ⟨10,86,none⟩),.pointer (some a),.int .u64 150])).run Tryz.prog w= .ok (some (86,a,150)) w:=by kernel_rfl
theorem ZZ (a p:Addr)(W:World)(ha:W.cell? a=some (.pointer (some p))):
  (ReflectliteValue.method (ReflectliteValue.valueError "reflectlite.Value.IsNil" 0) ReflectliteValue.isNil #[.agg #[.pointer (some ⟨10,86,none⟩),.pointer (some a),.int .u64 150]]).run Tryz.prog W= .ok (.bool false) W:=by
 rw[rlm];simp only[Sem.run_bind,QD,Result.andThen];simp[ReflectliteValue.isNil,loadVar,isAgg,underlying,Tryz.underlying86,ha,Result.andThen]
theorem acp (w:World):(ReflectliteType.method ReflectliteType.elem #[.agg #[.pointer (some ⟨10,86,none⟩)]]).run Tryz.prog w= .ok (.iface 182 (.agg #[.pointer (some ⟨10,49,none⟩)])) w:=by kernel_rfl
theorem MQ (v:Value)(w:World):(ReflectliteType.typeOf #[.iface 49 v]).run Tryz.prog w= .ok (.iface 182 (.agg #[.pointer (some ⟨10,49,none⟩)])) w:=by kernel_rfl
theorem TB (v0 v1:Value)(w:World):(ReflectliteValue.unpack (.iface 49 (.agg #[v0,v1]))).run Tryz.prog w
  = .ok (.agg #[.pointer (some ⟨10,49,none⟩),.pointer (some ⟨w.heap.size,0,none⟩),.int .u64 153]) (w.alloc (.cells #[v0,v1] 49)):=by kernel_rfl
theorem Vk (w:World):(Rtype.elem? 86).run Tryz.prog w= .ok (some 49) w:=by kernel_rfl
theorem amk (p:Addr)(w:World):(ReflectliteValue.mk 49 p ReflectliteValue.flagAddr).run Tryz.prog w= .ok (.agg #[.pointer (some ⟨10,49,none⟩),.pointer (some p),.int .u64 409]) w:=by kernel_rfl
theorem Zp (a p:Addr)(W:World)(ha:W.cell? a=some (.pointer (some p))):
  (ReflectliteValue.method (ReflectliteValue.valueError "reflectlite.Value.Elem" 0) ReflectliteValue.elem #[.agg #[.pointer (some ⟨10,86,none⟩),.pointer (some a),.int .u64 150]]).run Tryz.prog W
   = .ok (.agg #[.pointer (some ⟨10,49,none⟩),.pointer (some p),.int .u64 409]) W:=by
 rw[rlm];simp only[Sem.run_bind,QD,Result.andThen];simp[ReflectliteValue.elem,loadVar,isAgg,underlying,Tryz.underlying86,ha,Result.andThen,Vk,amk]
theorem XP (a:Addr)(w:World):(ReflectliteValue.parts (.agg #[.pointer (some ⟨10,49,none⟩),.pointer (some a),.int .u64 409])).run Tryz.prog w= .ok (some (49,a,409)) w:=by kernel_rfl
theorem aad (a:Addr)(w:World):(ReflectliteValue.parts (.agg #[.pointer (some ⟨10,49,none⟩),.pointer (some a),.int .u64 153])).run Tryz.prog w= .ok (some (49,a,153)) w:=by kernel_rfl
theorem Vg (w:World):(Rtype.directlyAssignable 49 49).run Tryz.prog w= .ok true w:=by kernel_rfl
theorem TE (t:Addr)(w:World):(ReflectliteValue.unpack (.iface 88 (.pointer (some t)))).run Tryz.prog w
  = .ok (.agg #[.pointer (some ⟨10,88,none⟩),.pointer (some ⟨w.heap.size,0,none⟩),.int .u64 150]) (w.alloc (.cells #[.pointer (some t)] 88)):=by kernel_rfl
theorem type88 (a:Addr)(w:World):(ReflectliteValue.methodAny (ReflectliteValue.valueError "reflectlite.Value.Type" 0) (fun t _ _ _=>ReflectliteType.toType t) #[.agg #[.pointer (some ⟨10,88,none⟩),.pointer (some a),.int .u64 150]]).run Tryz.prog w
  = .ok (.iface 182 (.agg #[.pointer (some ⟨10,88,none⟩)])) w:=by kernel_rfl
theorem adr (w:World):((ReflectliteType.abiMethod fun t=>(fun a:Nat=>Value.int IntKind.u8 (a:Int))<$>Rtype.kind t) #[.pointer (some ⟨10,88,none⟩)]).run Tryz.prog w= .ok (.int .u8 22) w:=by kernel_rfl
theorem adp (w:World):((ReflectliteType.abiMethod fun t=>(fun a:Nat=>Value.int IntKind.u8 (a:Int))<$>Rtype.kind t) #[.pointer (some ⟨10,83,none⟩)]).run Tryz.prog w= .ok (.int .u8 25) w:=by kernel_rfl
theorem QE (a:Addr)(w:World):(ReflectliteValue.parts (.agg #[.pointer (some ⟨10,88,none⟩),.pointer (some a),.int .u64 150])).run Tryz.prog w= .ok (some (88,a,150)) w:=by kernel_rfl
theorem Z4 (a p:Addr)(W:World)(ha:W.cell? a=some (.pointer (some p))):
  (ReflectliteValue.method (ReflectliteValue.valueError "reflectlite.Value.IsNil" 0) ReflectliteValue.isNil #[.agg #[.pointer (some ⟨10,88,none⟩),.pointer (some a),.int .u64 150]]).run Tryz.prog W= .ok (.bool false) W:=by
 rw[rlm];simp only[Sem.run_bind,QE,Result.andThen];simp[ReflectliteValue.isNil,loadVar,isAgg,underlying,Tryz.underlying88,ha,Result.andThen]
theorem acr (w:World):(ReflectliteType.method ReflectliteType.elem #[.agg #[.pointer (some ⟨10,88,none⟩)]]).run Tryz.prog w= .ok (.iface 182 (.agg #[.pointer (some ⟨10,83,none⟩)])) w:=by kernel_rfl
theorem Yo (v:Value)(w:World):(ReflectliteType.typeOf #[.iface 83 v]).run Tryz.prog w= .ok (.iface 182 (.agg #[.pointer (some ⟨10,83,none⟩)])) w:=by kernel_rfl
theorem TC (v0:Value)(w:World):(ReflectliteValue.unpack (.iface 83 (.agg #[v0]))).run Tryz.prog w
  = .ok (.agg #[.pointer (some ⟨10,83,none⟩),.pointer (some ⟨w.heap.size,0,none⟩),.int .u64 153]) (w.alloc (.cells #[v0] 83)):=by kernel_rfl
theorem Vl (w:World):(Rtype.elem? 88).run Tryz.prog w= .ok (some 83) w:=by kernel_rfl
theorem aml (p:Addr)(w:World):(ReflectliteValue.mk 83 p ReflectliteValue.flagAddr).run Tryz.prog w= .ok (.agg #[.pointer (some ⟨10,83,none⟩),.pointer (some p),.int .u64 409]) w:=by kernel_rfl
theorem Zq (a p:Addr)(W:World)(ha:W.cell? a=some (.pointer (some p))):
  (ReflectliteValue.method (ReflectliteValue.valueError "reflectlite.Value.Elem" 0) ReflectliteValue.elem #[.agg #[.pointer (some ⟨10,88,none⟩),.pointer (some a),.int .u64 150]]).run Tryz.prog W
   = .ok (.agg #[.pointer (some ⟨10,83,none⟩),.pointer (some p),.int .u64 409]) W:=by
 rw[rlm];simp only[Sem.run_bind,QE,Result.andThen];simp[ReflectliteValue.elem,loadVar,isAgg,underlying,Tryz.underlying88,ha,Result.andThen,Vl,aml]
theorem XQ (a:Addr)(w:World):(ReflectliteValue.parts (.agg #[.pointer (some ⟨10,83,none⟩),.pointer (some a),.int .u64 409])).run Tryz.prog w= .ok (some (83,a,409)) w:=by kernel_rfl
theorem aae (a:Addr)(w:World):(ReflectliteValue.parts (.agg #[.pointer (some ⟨10,83,none⟩),.pointer (some a),.int .u64 153])).run Tryz.prog w= .ok (some (83,a,153)) w:=by kernel_rfl
theorem Vh (w:World):(Rtype.directlyAssignable 83 83).run Tryz.prog w= .ok true w:=by kernel_rfl
theorem BP (w:World):(ReflectliteType.relation "AssignableTo" ReflectliteType.assignableTo #[.agg #[.pointer (some ⟨10,49,none⟩)],.iface 182 (.agg #[.pointer (some ⟨10,49,none⟩)])]).run Tryz.prog w= .ok (.bool true) w:=by kernel_rfl
theorem BQ (w:World):(ReflectliteType.relation "AssignableTo" ReflectliteType.assignableTo #[.agg #[.pointer (some ⟨10,49,none⟩)],.iface 182 (.agg #[.pointer (some ⟨10,83,none⟩)])]).run Tryz.prog w= .ok (.bool false) w:=by kernel_rfl
theorem BR (w:World):(ReflectliteType.relation "AssignableTo" ReflectliteType.assignableTo #[.agg #[.pointer (some ⟨10,83,none⟩)],.iface 182 (.agg #[.pointer (some ⟨10,83,none⟩)])]).run Tryz.prog w= .ok (.bool true) w:=by kernel_rfl
theorem ahK (tb bb:Nat)(v0 old:Value)(h1:v0.oneCell'=true)(W:World)(hb:W.cell? ⟨bb,0,none⟩=some v0)(ht:W.cell? ⟨tb,0,none⟩=some old)(hf:W.frozen? ⟨tb,0,none⟩=false):
  (ReflectliteValue.set #[.agg #[.pointer (some ⟨10,83,none⟩),.pointer (some ⟨tb,0,none⟩),.int .u64 409],.agg #[.pointer (some ⟨10,83,none⟩),.pointer (some ⟨bb,0,none⟩),.int .u64 153]]).run Tryz.prog W
   = .ok (.tuple #[]) (W.setCell ⟨tb,0,none⟩ v0):=by
 rw[rls];simp only[Sem.run_bind,XQ,aae,Result.andThen];simp[ReflectliteValue.flagAddr,loadVar,isAgg,underlying,Tryz.underlying83,hb,Result.andThen,Vh,storeVar,Value.cells,storeCells,Addr.add,loadCells,loadCellsFrom];rw[run_store Tryz.prog W ⟨tb,0,none⟩ _ _ h1];simp[ht,hf]
theorem ahJ (tb bb:Nat)(v0 v1 o0 o1:Value)(h0:v0.oneCell'=true)(h1:v1.oneCell'=true)(W:World)(hb0:W.cell? ⟨bb,0,none⟩=some v0)(hb1:W.cell? ⟨bb,1,none⟩=some v1)(ht0:W.cell? ⟨tb,0,none⟩=some o0)(ht1:W.cell? ⟨tb,1,none⟩=some o1)(hf0:W.frozen? ⟨tb,0,none⟩=false)(hf1:W.frozen? ⟨tb,1,none⟩=false):
  (ReflectliteValue.set #[.agg #[.pointer (some ⟨10,49,none⟩),.pointer (some ⟨tb,0,none⟩),.int .u64 409],.agg #[.pointer (some ⟨10,49,none⟩),.pointer (some ⟨bb,0,none⟩),.int .u64 153]]).run Tryz.prog W
   = .ok (.tuple #[]) ((W.setCell ⟨tb,0,none⟩ v0).setCell ⟨tb,1,none⟩ v1):=by
 have hc:(W.setCell ⟨tb,0,none⟩ v0).cell? ⟨tb,1,none⟩=some o1:=by rw[World.cell?_setCell_other];exact ht1;intro e;injection e;omega
 rw[rls];simp only[Sem.run_bind,XP,aad,Result.andThen];simp[ReflectliteValue.flagAddr,loadVar,isAgg,underlying,Tryz.underlying49,hb0,hb1,Result.andThen,Vg,storeVar,Value.cells,storeCells,Addr.add,loadCells,loadCellsFrom];rw[run_store Tryz.prog W ⟨tb,0,none⟩ _ _ h0];simp[ht0,hf0];rw[run_store Tryz.prog _ ⟨tb,1,none⟩ _ _ h1];simp[hc,hf1]
theorem IP (w:World):(ReflectliteType.relation "Implements" ReflectliteType.implements_ #[.agg #[.pointer (some ⟨10,49,none⟩)],.iface 182 (.agg #[.pointer (some ⟨10,44,none⟩)])]).run Tryz.prog w= .ok (.bool true) w:=by kernel_rfl
theorem IQ (w:World):(ReflectliteType.relation "Implements" ReflectliteType.implements_ #[.agg #[.pointer (some ⟨10,83,none⟩)],.iface 182 (.agg #[.pointer (some ⟨10,44,none⟩)])]).run Tryz.prog w= .ok (.bool true) w:=by kernel_rfl
theorem UK (v0 v1 o0 o1:Value)(tb:Nat)(h0:v0.oneCell'=true)(h1:v1.oneCell'=true)(w:World)(hg:w.cell? ⟨1,0,none⟩=some (.iface 182 (.agg #[.pointer (some ⟨10,44,none⟩)])))(ht0:w.cell? ⟨tb,0,none⟩=some o0)(ht1:w.cell? ⟨tb,1,none⟩=some o1)(hf0:w.frozen? ⟨tb,0,none⟩=false)(hf1:w.frozen? ⟨tb,1,none⟩=false):
  Calls Tryz.prog 44 #[.iface 49 (.agg #[v0,v1]),.iface 86 (.pointer (some ⟨tb,0,none⟩))] w fun ev w'=>ev= .returned (.bool true)∧w'=((((((w.alloc (.cells #[.pointer (some ⟨tb,0,none⟩)] 86)).alloc (.cells #[.pointer (some ⟨10,86,none⟩),.pointer (some ⟨w.heap.size,0,none⟩),.int .u64 150] 116)).alloc (.cells #[.pointer (some ⟨10,86,none⟩),.pointer (some ⟨w.heap.size,0,none⟩),.int .u64 150] 116)).alloc (.cells #[v0,v1] 49)).setCell ⟨tb,0,none⟩ v0).setCell ⟨tb,1,none⟩ v1):=by
 have x80:= @run_callFunc_extern Tryz.prog 80 _ (fun args=>ReflectliteValue.unpack (args.getD 0 (.tuple #[]))) Tryz.func80 (by kernel_rfl) (by kernel_rfl) (by kernel_rfl) (by kernel_rfl);have x81:= @run_callFunc_extern Tryz.prog 81 _ (ReflectliteValue.methodAny (ReflectliteValue.valueError "reflectlite.Value.Type" 0) (fun t _ _ _=>ReflectliteType.toType t)) Tryz.func81 (by kernel_rfl) (by kernel_rfl) (by kernel_rfl) (by kernel_rfl);have x82:= @run_callFunc_extern Tryz.prog 82 _ (ReflectliteValue.method (ReflectliteValue.valueError "reflectlite.Value.IsNil" 0) ReflectliteValue.isNil) Tryz.func82 (by kernel_rfl) (by kernel_rfl) (by kernel_rfl) (by kernel_rfl);have anH:= @run_callFunc_extern Tryz.prog 281 _ (ReflectliteType.abiMethod fun t=>do pure (.int .u8 (←Rtype.kind t))) Tryz.func281 (by kernel_rfl) (by kernel_rfl) (by kernel_rfl) (by kernel_rfl);have anK:= @run_callFunc_extern Tryz.prog 295 _ (ReflectliteType.method ReflectliteType.elem) Tryz.func295 (by kernel_rfl) (by kernel_rfl) (by kernel_rfl) (by kernel_rfl);have anL:= @run_callFunc_extern Tryz.prog 296 _ (ReflectliteType.relation "Implements" ReflectliteType.implements_) Tryz.func296 (by kernel_rfl) (by kernel_rfl) (by kernel_rfl) (by kernel_rfl);have x84:= @run_callFunc_extern Tryz.prog 84 _ ReflectliteType.typeOf Tryz.func84 (by kernel_rfl) (by kernel_rfl) (by kernel_rfl) (by kernel_rfl);have anI:= @run_callFunc_extern Tryz.prog 293 _ (ReflectliteType.relation "AssignableTo" ReflectliteType.assignableTo) Tryz.func293 (by kernel_rfl) (by kernel_rfl) (by kernel_rfl) (by kernel_rfl);have anF:= @run_callFunc_extern Tryz.prog 119 _ (ReflectliteValue.method (ReflectliteValue.valueError "reflectlite.Value.Elem" 0) ReflectliteValue.elem) Tryz.func119 (by kernel_rfl) (by kernel_rfl) (by kernel_rfl) (by kernel_rfl);have anG:= @run_callFunc_extern Tryz.prog 120 _ ReflectliteValue.set Tryz.func120 (by kernel_rfl) (by kernel_rfl) (by kernel_rfl) (by kernel_rfl);have y1:=MQ;have y2:=methodAssignableTo;have y3:=BP;have y4:=TB;have y5:=TD;have y6:=type86;have y7:=methodKind;have y8:=methodElem;have y9:=methodImplements;have y10:=adq;have y11:=ado;have y12:=acp;have y13:=IP;obtain⟨W1,hW1⟩:∃W,w.alloc (.cells #[.pointer (some ⟨tb,0,none⟩)] 86)=W:=⟨_,rfl⟩;have hB1:Below w.heap.size w W1:=by rw[←hW1];exact ag (Below.refl _ _) _
 have n8:=ZZ ⟨w.heap.size,0,none⟩ ⟨tb,0,none⟩ ((w.alloc (.cells #[.pointer (some ⟨tb,0,none⟩)] 86)).alloc (.cells #[.pointer (some ⟨10,86,none⟩),.pointer (some ⟨w.heap.size,0,none⟩),.int .u64 150] 116)) (by simp);have V4:Below w.heap.size w ((w.alloc (.cells #[.pointer (some ⟨tb,0,none⟩)] 86)).alloc (.cells #[.pointer (some ⟨10,86,none⟩),.pointer (some ⟨w.heap.size,0,none⟩),.int .u64 150] 116)):=ag (ag (Below.refl _ _) _) _;have hg2:=cell_later V4 hg;have el:=Zp ⟨w.heap.size,0,none⟩ ⟨tb,0,none⟩ (((w.alloc (.cells #[.pointer (some ⟨tb,0,none⟩)] 86)).alloc (.cells #[.pointer (some ⟨10,86,none⟩),.pointer (some ⟨w.heap.size,0,none⟩),.int .u64 150] 116)).alloc (.cells #[.pointer (some ⟨10,86,none⟩),.pointer (some ⟨w.heap.size,0,none⟩),.int .u64 150] 116)) (by rw[World.cell?_alloc_lt _ _ ⟨w.heap.size,0,none⟩ (by simp;omega)];simp);have hBB:Below w.heap.size w ((((w.alloc (.cells #[.pointer (some ⟨tb,0,none⟩)] 86)).alloc (.cells #[.pointer (some ⟨10,86,none⟩),.pointer (some ⟨w.heap.size,0,none⟩),.int .u64 150] 116)).alloc (.cells #[.pointer (some ⟨10,86,none⟩),.pointer (some ⟨w.heap.size,0,none⟩),.int .u64 150] 116)).alloc (.cells #[v0,v1] 49)):=ag (ag V4 _) _;have htl:tb<w.heap.size:=World.block_lt_of_cell? _ _ ht0
 have st:=ahJ tb (w.heap.size+1+1+1) v0 v1 o0 o1 h0 h1 ((((w.alloc (.cells #[.pointer (some ⟨tb,0,none⟩)] 86)).alloc (.cells #[.pointer (some ⟨10,86,none⟩),.pointer (some ⟨w.heap.size,0,none⟩),.int .u64 150] 116)).alloc (.cells #[.pointer (some ⟨10,86,none⟩),.pointer (some ⟨w.heap.size,0,none⟩),.int .u64 150] 116)).alloc (.cells #[v0,v1] 49))
  (by rw[World.cell?_alloc_at _ _ _ _ (by simp)];rfl) (by rw[World.cell?_alloc_at _ _ _ _ (by simp)];rfl)
  (cell_later hBB ht0) (cell_later hBB ht1)
  (by rw[World.frozen?_alloc_old _ _ _ (by simp;omega),World.frozen?_alloc_old _ _ _ (by simp;omega),World.frozen?_alloc_old _ _ _ (by simp;omega),World.frozen?_alloc_old _ _ _ (Nat.ne_of_lt htl)];exact hf0)
  (by rw[World.frozen?_alloc_old _ _ _ (by simp;omega),World.frozen?_alloc_old _ _ _ (by simp;omega),World.frozen?_alloc_old _ _ _ (by simp;omega),World.frozen?_alloc_old _ _ _ (Nat.ne_of_lt htl)];exact hf1)
 clear hW1 hB1 V4 hBB;go_enter Tryz.func44,Tryz.ntmps44;go_wp2;refine wp_loop_rounds 1 ?_;rw[rounds_succ];go_wp2;go_ret;exact⟨rfl,rfl⟩
theorem He (v:Value)(w:World):(ReflectliteType.typeOf #[.iface 347 v]).run Tryz.prog w= .ok (.iface 182 (.agg #[.pointer (some ⟨10,347,none⟩)])) w:=by kernel_rfl
theorem wL (w:World):((ReflectliteType.method fun t=>do Rtype.noPackHeld "Comparable" t;(fun a=>Value.bool a.comparable)<$>typeInfo t) #[.agg #[.pointer (some ⟨10,347,none⟩)]]).run Tryz.prog w= .ok (.bool true) w:=by kernel_rfl
theorem XI (v:Value)(xT:TypeId)(w:World):(Instr.typeAssert (.iface 49 v) xT 194 true).run Tryz.prog w= .ok (.tuple #[.nilIface,.bool false]) w:=run_typeAssert_lacksB Tryz.underlying194 (by kernel_rfl) (by kernel_rfl) v xT w
theorem adu (v:Value)(xT:TypeId)(w:World):(Instr.typeAssert (.iface 83 v) xT 194 true).run Tryz.prog w= .ok (.tuple #[.nilIface,.bool false]) w:=run_typeAssert_lacksB Tryz.underlying194 (by kernel_rfl) (by kernel_rfl) v xT w
theorem adt (v:Value)(xT:TypeId)(w:World):(Instr.typeAssert (.iface 49 v) xT 186 true).run Tryz.prog w= .ok (.tuple #[.nilIface,.bool false]) w:=run_typeAssert_lacksB Tryz.underlying186 (by kernel_rfl) (by kernel_rfl) v xT w
theorem uC (v:Value)(xT:TypeId)(w:World):(Instr.typeAssert (.iface 49 v) xT 189 true).run Tryz.prog w= .ok (.tuple #[.iface 49 v,.bool true]) w:=run_typeAssert_hasB Tryz.underlying189 (by kernel_rfl) v xT w
theorem OD (v:Value)(xT:TypeId)(w:World):(Instr.typeAssert (.iface 83 v) xT 189 true).run Tryz.prog w= .ok (.tuple #[.nilIface,.bool false]) w:=run_typeAssert_lacksB Tryz.underlying189 (by kernel_rfl) (by kernel_rfl) v xT w
theorem Lt (v:Value)(xT:TypeId)(w:World):(Instr.typeAssert (.iface 83 v) xT 191 true).run Tryz.prog w= .ok (.tuple #[.nilIface,.bool false]) w:=run_typeAssert_lacksB Tryz.underlying191 (by kernel_rfl) (by kernel_rfl) v xT w
theorem methodUnwrap (v:Value)(w:World):(Go.method 490 49 v "Unwrap").run Tryz.prog w= .ok (285,v) w:=by kernel_rfl
theorem aht (cd v1:Value)(b:Addr)(w:World):
  Calls Tryz.prog 45 #[.iface 49 (.agg #[.iface 83 (.agg #[cd]),v1]),.iface 347 (.pointer (some b))] w fun e w'=>e= .returned (.bool false)∧Below w.heap.size w w':=by
 have x84:= @run_callFunc_extern Tryz.prog 84 _ ReflectliteType.typeOf Tryz.func84 (by kernel_rfl) (by kernel_rfl) (by kernel_rfl) (by kernel_rfl);have anJ:= @run_callFunc_extern Tryz.prog 294 _ (ReflectliteType.method fun t=>do Rtype.noPackHeld "Comparable" t;pure (.bool (←typeInfo t).comparable)) Tryz.func294 (by kernel_rfl) (by kernel_rfl) (by kernel_rfl) (by kernel_rfl);have y1:=He;have y2:=wL;have y3:=rD;have y4:=XI;have y5:=adu;have y6:=uC;have y7:=OD;have y8:=Lt;have y9:=methodUnwrap;have q1:=run_eql_iface_types (P:=Tryz.prog) 49 347 (.agg #[.iface 83 (.agg #[cd]),v1]) (.pointer (some b)) Tryz.underlying44 (by decide);have q2:=run_eql_iface_types (P:=Tryz.prog) 83 347 (.agg #[cd]) (.pointer (some b)) Tryz.underlying44 (by decide);go_enter Tryz.func45,Tryz.ntmps45;go_wp2;refine wp_loop_rounds 2 ?_;rw[rounds_succ];go_wp2;rw[rounds_succ];go_wp2;go_ret;exact⟨rfl,ag (Below.refl _ _) _⟩
theorem UL (cd v1 o0:Value)(tb:Nat)(h0:cd.oneCell'=true)(w:World)(hg:w.cell? ⟨1,0,none⟩=some (.iface 182 (.agg #[.pointer (some ⟨10,44,none⟩)])))(ht0:w.cell? ⟨tb,0,none⟩=some o0)(hf0:w.frozen? ⟨tb,0,none⟩=false):
  Calls Tryz.prog 44 #[.iface 49 (.agg #[.iface 83 (.agg #[cd]),v1]),.iface 88 (.pointer (some ⟨tb,0,none⟩))] w fun ev w'=>ev= .returned (.bool true)∧w'=(((((w.alloc (.cells #[.pointer (some ⟨tb,0,none⟩)] 88)).alloc (.cells #[.pointer (some ⟨10,88,none⟩),.pointer (some ⟨w.heap.size,0,none⟩),.int .u64 150] 116)).alloc (.cells #[.pointer (some ⟨10,88,none⟩),.pointer (some ⟨w.heap.size,0,none⟩),.int .u64 150] 116)).alloc (.cells #[.iface 83 (.agg #[cd]),v1] 49)).alloc (.cells #[cd] 83)).setCell ⟨tb,0,none⟩ cd:=by
 have x80:= @run_callFunc_extern Tryz.prog 80 _ (fun args=>ReflectliteValue.unpack (args.getD 0 (.tuple #[]))) Tryz.func80 (by kernel_rfl) (by kernel_rfl) (by kernel_rfl) (by kernel_rfl);have x81:= @run_callFunc_extern Tryz.prog 81 _ (ReflectliteValue.methodAny (ReflectliteValue.valueError "reflectlite.Value.Type" 0) (fun t _ _ _=>ReflectliteType.toType t)) Tryz.func81 (by kernel_rfl) (by kernel_rfl) (by kernel_rfl) (by kernel_rfl);have x82:= @run_callFunc_extern Tryz.prog 82 _ (ReflectliteValue.method (ReflectliteValue.valueError "reflectlite.Value.IsNil" 0) ReflectliteValue.isNil) Tryz.func82 (by kernel_rfl) (by kernel_rfl) (by kernel_rfl) (by kernel_rfl);have anH:= @run_callFunc_extern Tryz.prog 281 _ (ReflectliteType.abiMethod fun t=>do pure (.int .u8 (←Rtype.kind t))) Tryz.func281 (by kernel_rfl) (by kernel_rfl) (by kernel_rfl) (by kernel_rfl);have anK:= @run_callFunc_extern Tryz.prog 295 _ (ReflectliteType.method ReflectliteType.elem) Tryz.func295 (by kernel_rfl) (by kernel_rfl) (by kernel_rfl) (by kernel_rfl);have anL:= @run_callFunc_extern Tryz.prog 296 _ (ReflectliteType.relation "Implements" ReflectliteType.implements_) Tryz.func296 (by kernel_rfl) (by kernel_rfl) (by kernel_rfl) (by kernel_rfl);have x84:= @run_callFunc_extern Tryz.prog 84 _ ReflectliteType.typeOf Tryz.func84 (by kernel_rfl) (by kernel_rfl) (by kernel_rfl) (by kernel_rfl);have anI:= @run_callFunc_extern Tryz.prog 293 _ (ReflectliteType.relation "AssignableTo" ReflectliteType.assignableTo) Tryz.func293 (by kernel_rfl) (by kernel_rfl) (by kernel_rfl) (by kernel_rfl);have anF:= @run_callFunc_extern Tryz.prog 119 _ (ReflectliteValue.method (ReflectliteValue.valueError "reflectlite.Value.Elem" 0) ReflectliteValue.elem) Tryz.func119 (by kernel_rfl) (by kernel_rfl) (by kernel_rfl) (by kernel_rfl);have anG:= @run_callFunc_extern Tryz.prog 120 _ ReflectliteValue.set Tryz.func120 (by kernel_rfl) (by kernel_rfl) (by kernel_rfl) (by kernel_rfl);have y1:=MQ;have z1:=Yo;have y2:=methodAssignableTo;have y3:=BQ;have z3:=BR;have y4:=TC;have y5:=TE;have y6:=type88;have y7:=methodKind;have y8:=methodElem;have y9:=methodImplements;have y10:=adr;have y11:=adp;have y12:=acr;have y13:=IQ;have y14:=adt;have y15:=uC;have y16:=methodUnwrap;have n8:=Z4 ⟨w.heap.size,0,none⟩ ⟨tb,0,none⟩ ((w.alloc (.cells #[.pointer (some ⟨tb,0,none⟩)] 88)).alloc (.cells #[.pointer (some ⟨10,88,none⟩),.pointer (some ⟨w.heap.size,0,none⟩),.int .u64 150] 116)) (by simp);have V4:Below w.heap.size w ((w.alloc (.cells #[.pointer (some ⟨tb,0,none⟩)] 88)).alloc (.cells #[.pointer (some ⟨10,88,none⟩),.pointer (some ⟨w.heap.size,0,none⟩),.int .u64 150] 116)):=ag (ag (Below.refl _ _) _) _;have hg2:=cell_later V4 hg;have el:=Zq ⟨w.heap.size,0,none⟩ ⟨tb,0,none⟩ ((((w.alloc (.cells #[.pointer (some ⟨tb,0,none⟩)] 88)).alloc (.cells #[.pointer (some ⟨10,88,none⟩),.pointer (some ⟨w.heap.size,0,none⟩),.int .u64 150] 116)).alloc (.cells #[.pointer (some ⟨10,88,none⟩),.pointer (some ⟨w.heap.size,0,none⟩),.int .u64 150] 116)).alloc (.cells #[.iface 83 (.agg #[cd]),v1] 49)) (by rw[World.cell?_alloc_lt _ _ ⟨w.heap.size,0,none⟩ (by simp;omega),World.cell?_alloc_lt _ _ ⟨w.heap.size,0,none⟩ (by simp;omega)];simp);have hBB:Below w.heap.size w (((((w.alloc (.cells #[.pointer (some ⟨tb,0,none⟩)] 88)).alloc (.cells #[.pointer (some ⟨10,88,none⟩),.pointer (some ⟨w.heap.size,0,none⟩),.int .u64 150] 116)).alloc (.cells #[.pointer (some ⟨10,88,none⟩),.pointer (some ⟨w.heap.size,0,none⟩),.int .u64 150] 116)).alloc (.cells #[.iface 83 (.agg #[cd]),v1] 49)).alloc (.cells #[cd] 83)):=ag (ag (ag V4 _) _) _;have htl:tb<w.heap.size:=World.block_lt_of_cell? _ _ ht0
 have st:=ahK tb (w.heap.size+1+1+1+1) cd o0 h0 (((((w.alloc (.cells #[.pointer (some ⟨tb,0,none⟩)] 88)).alloc (.cells #[.pointer (some ⟨10,88,none⟩),.pointer (some ⟨w.heap.size,0,none⟩),.int .u64 150] 116)).alloc (.cells #[.pointer (some ⟨10,88,none⟩),.pointer (some ⟨w.heap.size,0,none⟩),.int .u64 150] 116)).alloc (.cells #[.iface 83 (.agg #[cd]),v1] 49)).alloc (.cells #[cd] 83))
  (by rw[World.cell?_alloc_at _ _ _ _ (by simp)];rfl)
  (cell_later hBB ht0)
  (by rw[World.frozen?_alloc_old _ _ _ (by simp;omega),World.frozen?_alloc_old _ _ _ (by simp;omega),World.frozen?_alloc_old _ _ _ (by simp;omega),World.frozen?_alloc_old _ _ _ (by simp;omega),World.frozen?_alloc_old _ _ _ (Nat.ne_of_lt htl)];exact hf0)
 clear V4 hBB;go_enter Tryz.func44,Tryz.ntmps44;go_wp2;refine wp_loop_rounds 2 ?_;rw[rounds_succ];go_wp2;rw[rounds_succ];go_wp2;go_ret;exact⟨rfl,rfl⟩
end As
end Go.Proofs.YthbdjmopolpjmaaGreatDoor.C
namespace Go.Proofs.YthbdjmopolpjmaaGreatDoor.C
open Go.RowKit Go.Proofs.YthbdjmopolpjmaaGreatDoorW.PrintWords Go.Proofs.YthbdjmopolpjmaaGreatDoorW.PrintLast Go.Proofs.YthbdjmopolpjmaaGreatDoorW.PrintMore Go.Proofs.YthbdjmopolpjmaaGreatDoor.F Go.Proofs.YthbdjmopolpjmaaGreatDoor.M
def BI (w:World):Prop:=(∃b,w.cell? ⟨0,0,none⟩=some (.iface 347 (.pointer (some b))))∧w.cell? ⟨1,0,none⟩=some (.iface 182 (.agg #[.pointer (some ⟨10,44,none⟩)]))
theorem BI.below {w w1:World}(h:BI w)(hb:Below w.heap.size w w1):BI w1:=by
 obtain⟨⟨b,h0⟩,h1⟩:=h;exact⟨⟨b,cell_later hb h0⟩,cell_later hb h1⟩
theorem FU (v0 v1:Value)(w0 w:World)(h0:v0.oneCell'=true)(h1:v1.oneCell'=true)(hw:w=w0.alloc (.cells #[.nilIface,.int .i64 0] 49))(hg:BI w0):
  Calls Tryz.prog 44 #[.iface 49 (.agg #[v0,v1]),.iface 86 (.pointer (some ⟨w0.heap.size,0,none⟩))] w fun e w'=>e= .returned (.bool true)∧w'.cell? ⟨w0.heap.size,1,none⟩=some v1∧Below w0.heap.size w0 w':=by
 subst hw;have hb:Below w0.heap.size w0 (w0.alloc (.cells #[.nilIface,.int .i64 0] 49)):=ag (Below.refl _ _) _;refine(As.UK v0 v1 .nilIface (.int .i64 0) w0.heap.size h0 h1 _ (hg.below hb).2 (by simp) (by simp) (by simp) (by simp)).mono fun e w' ⟨he,hw⟩=>⟨he,?_,?_⟩
 ·subst hw
  have key:∀X:World,Below (w0.alloc (.cells #[.nilIface,.int .i64 0] 49)).heap.size (w0.alloc (.cells #[.nilIface,.int .i64 0] 49)) X→((X.setCell ⟨w0.heap.size,0,none⟩ v0).setCell ⟨w0.heap.size,1,none⟩ v1).cell? ⟨w0.heap.size,1,none⟩=some v1:=by
   intro X hX;have h2:=(hX.block w0.heap.size (by simp)).trans (bZ w0 _);have h3:=aN (aN h2 0 v0) 1 v1;exact(aj h3 1).trans (by simp)
  exact key _ (ag (ag (ag (ag (Below.refl _ _) _) _) _) _)
 ·subst hw;refine Below.setCell (p:=⟨w0.heap.size,1,none⟩) (Below.setCell (p:=⟨w0.heap.size,0,none⟩) ?_ (Nat.le_refl _) _) (Nat.le_refl _) _;exact ag (ag (ag (ag hb _) _) _) _
theorem QZ (cd v1:Value)(w0 w:World)(h0:cd.oneCell'=true)(hw:w=w0.alloc (.cells #[.int .i64 0] 83))(hg:BI w0):
  Calls Tryz.prog 44 #[.iface 49 (.agg #[.iface 83 (.agg #[cd]),v1]),.iface 88 (.pointer (some ⟨w0.heap.size,0,none⟩))] w fun e w'=>e= .returned (.bool true)∧w'.cell? ⟨w0.heap.size,0,none⟩=some cd∧Below w0.heap.size w0 w':=by
 subst hw;have hb:Below w0.heap.size w0 (w0.alloc (.cells #[.int .i64 0] 83)):=ag (Below.refl _ _) _;refine(As.UL cd v1 (.int .i64 0) w0.heap.size h0 _ (hg.below hb).2 (by simp) (by simp)).mono fun e w' ⟨he,hw⟩=>⟨he,?_,?_⟩
 ·subst hw
  have key:∀X:World,Below (w0.alloc (.cells #[.int .i64 0] 83)).heap.size (w0.alloc (.cells #[.int .i64 0] 83)) X→(X.setCell ⟨w0.heap.size,0,none⟩ cd).cell? ⟨w0.heap.size,0,none⟩=some cd:=by
   intro X hX;have h2:=(hX.block w0.heap.size (by simp)).trans (bZ w0 _);exact(aj (aN h2 0 cd) 0).trans (by simp)
  exact key _ (ag (ag (ag (ag (ag (Below.refl _ _) _) _) _) _) _)
 ·subst hw;refine Below.setCell (p:=⟨w0.heap.size,0,none⟩) ?_ (Nat.le_refl _) _;exact ag (ag (ag (ag (ag hb _) _) _) _) _
theorem G6 (n at_:Int)(w:World)(hg:BI w):
  Calls Tryz.prog 21 #[.iface 49 (.agg #[.iface 83 (.agg #[.int .i64 n]),.int .i64 at_])] w fun e w'=>e= .returned (.tuple #[.int .i64 n,.int .i64 at_])∧Below w.heap.size w w':=by
 have HG:=zM hg;clear hg;go_enter Tryz.func21,Tryz.ntmps21;go_wp2_with fail;refine(FU (.iface 83 (.agg #[.int .i64 n])) (.int .i64 at_) w _ rfl rfl rfl HG.out).mono ?_;rintro e w1 ⟨rfl,h1,h2⟩;obtain⟨b,hE⟩:=(HG.out.below h2).1;have H1:=zM h2;clear h2;go_wp2_with fail;refine(As.aht (.int .i64 n) (.int .i64 at_) b _).mono ?_;rintro e w2 ⟨rfl,h3⟩;have H2:=zM (ah H1.out H1.out.size h3);clear h3 hE h1;go_wp2_with fail;refine(QZ (.int .i64 n) (.int .i64 at_) w2 _ rfl rfl (HG.out.below H2.out)).mono ?_;rintro e w3 ⟨rfl,h4,h5⟩;have H3:=zM (ah H2.out H2.out.size h5);clear h5;go_wp2_with fail;go_ret2;exact⟨rfl,H3.out⟩
def Pow (w:World):Prop:=Lib.TabIs Tryz.prog w "internal/strconv.uint64pow10" .u64 Lib.pow10Tab
theorem Pow.below {w w1:World}(h:Pow w)(hb:Below w.heap.size w w1):Pow w1:=Lib.tabBelow_of_tabIs h w1 hb
theorem zW (n:Int)(w:World)(h:Pow w)(h0: -9223372036854775808≤n)(h1:n≤9223372036854775807):Calls Tryz.prog 31 #[.int .i64 n] w fun e w'=>e= .returned (.string ⟨(Lib.itoa n).toArray⟩)∧Below w.heap.size w w':=
 (Tryz.strconv_Itoa n h0 h1 w h).mono fun e w' ⟨he,k,os,hw⟩=>⟨he,hw▸Lib.below_grow w.heap.size w (Nat.le_refl _) k os⟩
structure Fits (x:iU):Prop where
 ok:iK x=0
 s1:x.f1.size≤1048576
 s4:x.f4.size≤1048576
theorem Fits.bounds {x:iU}(h:Fits x):Bounds x:=Classical.byContradiction fun hb=>by have:=h.ok;rw[fG hb]at this;exact absurd this (by decide)
theorem Fits.rat {x:iU}(h:Fits x):kL x.f2.f0 x.f2.f1∧kL x.f3.f0 x.f3.f1:=Classical.byContradiction fun hb=>by have:=h.ok;rw[lG h.bounds hb]at this;exact absurd this (by decide)
theorem VJ (x:iU)(A:Option Addr)(c:Nat)(w:World)(hf:Fits x)(hp:Pow w):Calls Tryz.prog 46 #[EV x A c] w fun e w'=>e= .returned (.string (⟨(Lib.itoa x.f0).toArray⟩))∧Below w.heap.size w w':=by
 have HB:=zM (ag (Below.refl w.heap.size w) (.cells #[.int .i64 x.f0,.string x.f1,.string x.f2.f0,.string x.f2.f1,.string x.f3.f0,.string x.f3.f1,.string x.f4,.int .i64 x.f5,.slice A x.f6.length c,.int .i64 x.f7,.bool x.f8] 55));have HF:=zM hf;have HP:=zM hp;clear hf hp;go_enter Tryz.func46,Tryz.ntmps46;unfold EV;go_wp2_with fail;refine(zW x.f0 _ (HP.out.below HB.out) (by have:=HF.out.bounds;unfold Bounds at this;omega) (by have:=HF.out.bounds;unfold Bounds at this;omega)).mono ?_;rintro e w1 ⟨rfl,hb⟩;have H1:=zM (ah HB.out (by simp) hb);clear hb;go_wp2_with fail;go_ret;exact⟨rfl,H1.out⟩
theorem VK (x:iU)(A:Option Addr)(c:Nat)(w:World)(hf:Fits x)(hp:Pow w):Calls Tryz.prog 47 #[EV x A c] w fun e w'=>e= .returned (.string (⟨(Lib.itoa x.f7).toArray⟩))∧Below w.heap.size w w':=by
 have HB:=zM (ag (Below.refl w.heap.size w) (.cells #[.int .i64 x.f0,.string x.f1,.string x.f2.f0,.string x.f2.f1,.string x.f3.f0,.string x.f3.f1,.string x.f4,.int .i64 x.f5,.slice A x.f6.length c,.int .i64 x.f7,.bool x.f8] 55));have HF:=zM hf;have HP:=zM hp;clear hf hp;go_enter Tryz.func47,Tryz.ntmps47;unfold EV;go_wp2_with fail;refine(zW x.f7 _ (HP.out.below HB.out) (by have:=HF.out.bounds;unfold Bounds at this;omega) (by have:=HF.out.bounds;unfold Bounds at this;omega)).mono ?_;rintro e w1 ⟨rfl,hb⟩;have H1:=zM (ah HB.out (by simp) hb);clear hb;go_wp2_with fail;go_ret;exact⟨rfl,H1.out⟩
theorem VL (x:iU)(A:Option Addr)(c:Nat)(w:World)(hf:Fits x)(hp:Pow w):Calls Tryz.prog 48 #[EV x A c] w fun e w'=>e= .returned (.string (⟨(Lib.itoa x.f5).toArray⟩))∧Below w.heap.size w w':=by
 have HB:=zM (ag (Below.refl w.heap.size w) (.cells #[.int .i64 x.f0,.string x.f1,.string x.f2.f0,.string x.f2.f1,.string x.f3.f0,.string x.f3.f1,.string x.f4,.int .i64 x.f5,.slice A x.f6.length c,.int .i64 x.f7,.bool x.f8] 55));have HF:=zM hf;have HP:=zM hp;clear hf hp;go_enter Tryz.func48,Tryz.ntmps48;unfold EV;go_wp2_with fail;refine(zW x.f5 _ (HP.out.below HB.out) (by have:=HF.out.bounds;unfold Bounds at this;omega) (by have:=HF.out.bounds;unfold Bounds at this;omega)).mono ?_;rintro e w1 ⟨rfl,hb⟩;have H1:=zM (ah HB.out (by simp) hb);clear hb;go_wp2_with fail;go_ret;exact⟨rfl,H1.out⟩
theorem VM (x:iU)(A:Option Addr)(c:Nat)(w:World)(hf:Fits x)(hp:Pow w):Calls Tryz.prog 49 #[EV x A c] w fun e w'=>e= .returned (.string ⟨(if x.f8 then #[120]else #[43])⟩)∧Below w.heap.size w w':=by
 have HB:=zM (ag (Below.refl w.heap.size w) (.cells #[.int .i64 x.f0,.string x.f1,.string x.f2.f0,.string x.f2.f1,.string x.f3.f0,.string x.f3.f1,.string x.f4,.int .i64 x.f5,.slice A x.f6.length c,.int .i64 x.f7,.bool x.f8] 55));clear hf hp;cases hb:x.f8 with
 |false=>
  rw[hb]at HB;go_enter Tryz.func49,Tryz.ntmps49;unfold EV;rw[hb];clear hb;go_wp2_with fail;go_ret;exact⟨rfl,HB.out⟩
 |true=>
  rw[hb]at HB;go_enter Tryz.func49,Tryz.ntmps49;unfold EV;rw[hb];clear hb;go_wp2_with fail;go_ret;exact⟨rfl,HB.out⟩
theorem VN (x:iU)(A:Option Addr)(c:Nat)(w:World)(hf:Fits x)(hp:Pow w):Calls Tryz.prog 50 #[EV x A c] w fun e w'=>e= .returned (.string (esc x.f1))∧Below w.heap.size w w':=by
 have HB:=zM (ag (Below.refl w.heap.size w) (.cells #[.int .i64 x.f0,.string x.f1,.string x.f2.f0,.string x.f2.f1,.string x.f3.f0,.string x.f3.f1,.string x.f4,.int .i64 x.f5,.slice A x.f6.length c,.int .i64 x.f7,.bool x.f8] 55));have HF:=zM hf;have HP:=zM hp;clear hf hp;go_enter Tryz.func50,Tryz.ntmps50;unfold EV;go_wp2_with fail;refine(qR x.f1 _ (by have:=HF.out.s1;omega)).mono ?_;rintro e w1 ⟨rfl,hb⟩;have H1:=zM (ah HB.out (by simp) hb);clear hb;go_wp2_with fail;go_ret;exact⟨rfl,H1.out⟩
theorem VO (x:iU)(A:Option Addr)(c:Nat)(w:World)(hf:Fits x)(hp:Pow w):Calls Tryz.prog 51 #[EV x A c] w fun e w'=>e= .returned (.string (mf x.f2.f0 x.f2.f1))∧Below w.heap.size w w':=by
 have HB:=zM (ag (Below.refl w.heap.size w) (.cells #[.int .i64 x.f0,.string x.f1,.string x.f2.f0,.string x.f2.f1,.string x.f3.f0,.string x.f3.f1,.string x.f4,.int .i64 x.f5,.slice A x.f6.length c,.int .i64 x.f7,.bool x.f8] 55));have HF:=zM hf;have HP:=zM hp;clear hf hp;go_enter Tryz.func51,Tryz.ntmps51;unfold EV;go_wp2_with fail;refine(xK x.f2.f0 x.f2.f1 _ HF.out.rat.1).mono ?_;rintro e w1 ⟨rfl,hb⟩;have H1:=zM (ah HB.out (by simp) hb);clear hb;go_wp2_with fail;go_ret;exact⟨rfl,H1.out⟩
theorem VP (x:iU)(A:Option Addr)(c:Nat)(w:World)(hf:Fits x)(hp:Pow w):Calls Tryz.prog 52 #[EV x A c] w fun e w'=>e= .returned (.string (mf x.f3.f0 x.f3.f1))∧Below w.heap.size w w':=by
 have HB:=zM (ag (Below.refl w.heap.size w) (.cells #[.int .i64 x.f0,.string x.f1,.string x.f2.f0,.string x.f2.f1,.string x.f3.f0,.string x.f3.f1,.string x.f4,.int .i64 x.f5,.slice A x.f6.length c,.int .i64 x.f7,.bool x.f8] 55));have HF:=zM hf;have HP:=zM hp;clear hf hp;go_enter Tryz.func52,Tryz.ntmps52;unfold EV;go_wp2_with fail;refine(xK x.f3.f0 x.f3.f1 _ HF.out.rat.2).mono ?_;rintro e w1 ⟨rfl,hb⟩;have H1:=zM (ah HB.out (by simp) hb);clear hb;go_wp2_with fail;go_ret;exact⟨rfl,H1.out⟩
theorem VQ (x:iU)(A:Option Addr)(c:Nat)(w:World)(hf:Fits x)(hp:Pow w):Calls Tryz.prog 53 #[EV x A c] w fun e w'=>e= .returned (.string (esc x.f4))∧Below w.heap.size w w':=by
 have HB:=zM (ag (Below.refl w.heap.size w) (.cells #[.int .i64 x.f0,.string x.f1,.string x.f2.f0,.string x.f2.f1,.string x.f3.f0,.string x.f3.f1,.string x.f4,.int .i64 x.f5,.slice A x.f6.length c,.int .i64 x.f7,.bool x.f8] 55));have HF:=zM hf;have HP:=zM hp;clear hf hp;go_enter Tryz.func53,Tryz.ntmps53;unfold EV;go_wp2_with fail;refine(qR x.f4 _ (by have:=HF.out.s4;omega)).mono ?_;rintro e w1 ⟨rfl,hb⟩;have H1:=zM (ah HB.out (by simp) hb);clear hb;go_wp2_with fail;go_ret;exact⟨rfl,H1.out⟩
def fns:Array Value:= #[.func (.func 46) #[] #[],.func (.func 47) #[] #[],.func (.func 48) #[] #[],.func (.func 49) #[] #[],.func (.func 50) #[] #[],.func (.func 51) #[] #[],.func (.func 52) #[] #[],.func (.func 53) #[] #[]]
theorem Js (w:World):Calls Tryz.prog 22 #[] w fun e w'=>e= .returned (.slice (some ⟨w.heap.size,0,none⟩) 8 8)∧w.alloc (.cells fns 53)=w':=by
 go_enter Tryz.func22,Tryz.ntmps22;go_wp2_with fail;go_ret;exact⟨rfl,rfl⟩
theorem Yb {w:World}{base:Nat}{ok:Nat→Prop}{v:Value}{ts:List ByteArray}(h:Kd.string.R 9 w base ok v ts)(hn:ts≠[]):∃g c,v= .slice (some ⟨g,0,none⟩) ts.length c∧ts.length≤c∧g<w.heap.size∧∀(j:Nat) x,ts[j]?=some x→w.cell? ⟨g,0+j,none⟩=some (.string x):=by
 have ho:=Kd.jd h;rcases ho.2 with⟨_,he⟩|⟨g,cap,cur,rfl,ht,hh,hl,hm,hx⟩
 ·exact absurd (List.eq_nil_of_length_eq_zero he) hn
 ·refine⟨g,cap,rfl,by omega,dV hh,fun j x hj=>?_⟩;rw[Nat.zero_add,aj hh j];obtain⟨hjl,hjx⟩:=List.getElem?_eq_some_iff.1 hj;have hx2:=hx.2;have h1:(cur.toList.take (ts.length*1))[j]?=(encs Value.string ts)[j]?:=by rw[←hx2]
  rw[List.getElem?_take]at h1;simp[hjl,encs,hj]at h1;rw[←hjx];simpa using h1
theorem KU (v:Value)(ts:List ByteArray)(base:Nat)(ok:Nat→Prop)(w:World)(hR:Kd.string.R 9 w base ok v ts)(hn:ts≠[])(hl:ts.length≤140737488355328)(hb:(RY ts).length≤140737488355328):
  Calls Tryz.prog 24 #[v] w fun e w'=>e= .returned (.string (jn ts))∧Below w.heap.size w w':=by
 obtain⟨g,c,rfl,hc,hg,hcells⟩:=Yb hR hn
 have hlen:(Lib.join (ts.map (·.data.toList)) (⟨#[9]⟩:ByteArray).data.toList).length≤140737488355328:=by
  have h1:(RY ts).length=(jn ts).size:=by rw[←xq,bytesOf_length]
  have h2:(jn ts).size=(Lib.join (ts.map (·.data.toList)) [9]).length:=by
   rw[←bV];simp[jn]
  have h3:(⟨#[9]⟩:ByteArray).data.toList=[9]:=rfl;rw[h3,←h2,←h1];exact hb
 have HJ:=zM (Tryz.strings_Join g 0 c ts ⟨#[9]⟩ w hcells hg hl hc hlen);clear hcells hg hl hc hlen hR hb hn;go_enter Tryz.func24,Tryz.ntmps24;go_wp2_with fail;refine HJ.out.mono ?_;rintro e w1 ⟨rfl,hb⟩;have HB:=zM hb;clear hb;go_wp2_with fail;go_ret;exact⟨rfl,HB.out⟩
end Go.Proofs.YthbdjmopolpjmaaGreatDoor.C
namespace Go.Proofs.YthbdjmopolpjmaaGreatDoor.M
open Go.RowKit Go.Proofs.YthbdjmopolpjmaaGreatDoorW.PrintWords Go.Proofs.YthbdjmopolpjmaaGreatDoorW.PrintLast Go.Proofs.YthbdjmopolpjmaaGreatDoorW.PrintMore Go.Proofs.YthbdjmopolpjmaaGreatDoor.F Go.Proofs.YthbdjmopolpjmaaGreatDoor.C
theorem Zk (u:Nat):(Lib.decDigits u).length≤u+1:=by
 induction u using Nat.strongRecOn with
 |ind u ih=>
  by_cases h:u<10
  ·rw[Lib.decDigits_one h];simp
  ·rw[Lib.decDigits,dif_neg h];have:=ih (u/10) (by omega);simp;omega
theorem Xr {n:Int}(h0:0≤n)(h1:n≤1000000):(Lib.itoa n).length≤1000001:=by
 unfold Lib.itoa;rw[if_neg (by omega)];have:=Zk n.toNat;omega
theorem zX {n:Int}(h0:0≤n)(h1:n≤1000000):(⟨(Lib.itoa n).toArray⟩:ByteArray).size≤1000001:=by
 rw[←bV];simpa using Xr h0 h1
theorem GN {n d:ByteArray}(h:kL n d):(mf n d).size≤1300:=by
 have hs:=h.sizes;unfold mf;split
 ·omega
 ·simp only[ByteArray.size_append];have:(⟨#[47]⟩:ByteArray).size=1:=rfl;omega
theorem Z5:∀(ts:List ByteArray) (b:Nat),(∀t∈ts,t.size≤b)→(RY ts).length≤ts.length*(b+1)
 | [],_,_=>by simp[RY]
 |t::ts,b,h=>by
  have h1:∀(ts:List ByteArray),(∀t∈ts,t.size≤b)→(ts.flatMap (fun t=>9::bytesOf t)).length≤ts.length*(b+1):=by
   intro ts
   induction ts with
   |nil=>intro _;simp
   |cons u ts ih=>
    intro h;have h2:=ih (fun t ht=>h t (List.mem_cons_of_mem _ ht));have h3:=h u List.mem_cons_self;simp only[List.flatMap_cons,List.length_append,List.length_cons,bytesOf_length]at h2⊢;rw[Nat.add_mul,Nat.one_mul];omega
  have h2:=h1 ts (fun t ht=>h t (List.mem_cons_of_mem _ ht));have h3:=h t List.mem_cons_self;simp only[RY,List.length_append,List.length_cons,bytesOf_length];rw[Nat.add_mul,Nat.one_mul];omega
structure Small (x:iU):Prop where
 s1:x.f1.size≤1048576
 s4:x.f4.size≤1048576
 s6:∀t∈x.f6,t.size≤1048576
noncomputable def eight (x:iU):List ByteArray:=[⟨(Lib.itoa x.f0).toArray⟩,⟨(Lib.itoa x.f7).toArray⟩,⟨(Lib.itoa x.f5).toArray⟩,⟨(if x.f8 then #[120]else #[43])⟩,esc x.f1,mf x.f2.f0 x.f2.f1,mf x.f3.f0 x.f3.f1,esc x.f4]
theorem parts_eq (x:iU):parts x=eight x++x.f6.map esc:=rfl
theorem Jm {x:iU}(h:iK x=0):x.f6.length≤8:=by
 refine Classical.byContradiction fun hn=>?_
 have hb:Bounds x:=Classical.byContradiction fun hb=>by rw[fG hb]at h;exact absurd h (by decide)
 have hr:kL x.f2.f0 x.f2.f1∧kL x.f3.f0 x.f3.f1:=Classical.byContradiction fun hr=>by rw[lG hb hr]at h;exact absurd h (by decide)
 by_cases hm:minus x.f3.f0=true
 ·rw[rQ hb hr hm]at h;exact absurd h (by decide)
 ·rw[uZ hb hr hm (by omega)]at h;exact absurd h (by decide)
theorem Small.fits {x:iU}(h:Small x)(h0:iK x=0):Fits x:=⟨h0,h.s1,h.s4⟩
theorem SQ {x:iU}(h:Small x)(h0:iK x=0):∀t∈parts x,t.size≤2097152:=by
 have hf:=h.fits h0;have hb:=hf.bounds;unfold Bounds at hb;have hr:=hf.rat;intro t ht;rw[parts_eq]at ht;rcases List.mem_append.1 ht with ht|ht
 ·simp only[eight,List.mem_cons,List.not_mem_nil,or_false]at ht;have e1:=DV x.f1;have e4:=DV x.f4;have:=h.s1;have:=h.s4;have i0:=zX (n:=x.f0) (by omega) (by omega);have i7:=zX (n:=x.f7) (by omega) (by omega);have i5:=zX (n:=x.f5) (by omega) (by omega);have r2:=GN hr.1;have r3:=GN hr.2;rcases ht with rfl|rfl|rfl|rfl|rfl|rfl|rfl|rfl
  ·omega
  ·omega
  ·omega
  ·cases x.f8<;>decide
  ·omega
  ·omega
  ·omega
  ·omega
 ·obtain⟨u,hu,rfl⟩:=List.mem_map.1 ht;have:=DV u;have:=h.s6 u hu;omega
theorem GL {x:iU}(h0:iK x=0):(parts x).length≤16∧8≤(parts x).length:=by
 have:=Jm h0;simp[parts_eq,eight];omega
theorem Ef {x:iU}(h:Small x)(h0:iK x=0):(RY (parts x)).length≤33554448:=by
 have h1:=Z5 (parts x) 2097152 (SQ h h0);have h2:=(GL h0).1;have h3:(parts x).length*(2097152+1)≤16*(2097152+1):=Nat.mul_le_mul_right _ h2;omega
theorem XR (x:iU):parts x≠[]:=by simp[parts_eq,eight]
theorem xU {l:List iU}{j:Nat}(h:j<l.length):aX l (j:Int)=l[j]'h:=by
 simp[aX,h]
theorem aaf {l:List iU}{j:Nat}(hj:j<l.length)(h0:∀k:Nat,k<j→iK (aX l (k:Int))=0)(h1:iK (aX l (j:Int))≠0):prt l=(⟨#[]⟩,iK (aX l (j:Int)),(j:Int)):=by
 unfold prt;have h:=ac9 (l:=l) (j:=j) 0 hj (fun k hk=>by have:=h0 k hk;rw[xU (by omega)]at this;exact this) (by rw[xU hj]at h1;exact h1);rw[h,xU hj];simp
theorem NR {l:List iU}(h0:∀k:Nat,k<l.length→iK (aX l (k:Int))=0):bad l 0=none:=by
 rw[UN];intro x hx;obtain⟨k,hk,rfl⟩:=List.getElem_of_mem hx;have:=h0 k hk;rw[xU hk]at this;exact this
theorem XW {l:List iU}(h0:∀k:Nat,k<l.length→iK (aX l (k:Int))=0)(h1:4096<l.length):prt l=(⟨#[]⟩,4,0):=by
 unfold prt;rw[NR h0];simp only;rw[if_pos h1]
theorem XV {l:List iU}(h0:∀k:Nat,k<l.length→iK (aX l (k:Int))=0)(h1:¬4096<l.length)(i:Nat)(h2:65536<(lines (l.take i)).length):prt l=(⟨#[]⟩,4,0):=by
 have h3:=EZ l i;unfold prt;rw[NR h0];simp only;rw[if_neg h1,if_pos (by omega)]
theorem XX {l:List iU}(h0:∀k:Nat,k<l.length→iK (aX l (k:Int))=0)(h1:¬4096<l.length)(h2:¬65536<(lines l).length):prt l=(strOfNums (lines l),0,0):=by
 unfold prt;rw[NR h0];simp only;rw[if_neg h1,if_neg h2]
end Go.Proofs.YthbdjmopolpjmaaGreatDoor.M
