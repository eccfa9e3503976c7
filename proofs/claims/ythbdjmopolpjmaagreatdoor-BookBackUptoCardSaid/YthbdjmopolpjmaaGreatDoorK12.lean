/- Part 12 of the proof. -/
import Derived.Test.YthbdjmopolpjmaaGreatDoorK11
set_option linter.unusedVariables false
set_option linter.unusedSimpArgs false
set_option maxHeartbeats 8000000
set_option maxRecDepth 100000
namespace Go.Proofs.YthbdjmopolpjmaaGreatDoor.C
open Go.RowKit Go.Proofs.YthbdjmopolpjmaaGreatDoorW.PrintWords Go.Proofs.YthbdjmopolpjmaaGreatDoorW.PrintLast Go.Proofs.YthbdjmopolpjmaaGreatDoorW.PrintMore Go.Proofs.YthbdjmopolpjmaaGreatDoor.F Go.Proofs.YthbdjmopolpjmaaGreatDoor.M
attribute [local go_sem] max2_int min2_int max_two min_two max_three min_three max_four min_four
def minus (s:ByteArray):Bool:=decide (0<s.size∧bt s 0=45)
def body (s:ByteArray):ByteArray:=if minus s then s.extract 1 s.size else s
def uk (s:ByteArray):Prop:=lU (body s)∧(minus s=true→dv (body s)≠0)
theorem Kv (s:ByteArray)(h:0<s.size):((s.extract 0 1).toList==[45])=decide (bt s 0=45):=by
 have h1:=bV s;rw[ByteArray.toList_eq];have e:(s.extract 0 1).data.toList=s.data.toList.take 1:=by simp[ByteArray.data_extract,Array.toList_extract,List.extract]
 rw[e];have hr:=gW s 0;cases hd:s.data.toList with
 |nil=>rw[hd]at h1;simp at h1;omega
 |cons a b=>
  have hb:bt s 0=(a.toNat:Int):=by rw[←hr];simp[bytesOf,hd,rd]
  rw[hb];simp only[List.take_succ_cons,List.take_zero]
  by_cases ha:a=45
  ·subst ha;decide
  ·have:¬((a.toNat:Int)=45):=fun h=>ha (UInt8.toNat_inj.1 (by simp;omega))
   rw[decide_eq_false this];simp[ha]
theorem yF (s:ByteArray):strings_CutPrefix.f s ⟨#[45]⟩=some (body s,minus s):=by
 unfold strings_CutPrefix.f stringslite_CutPrefix.f stringslite_HasPrefix.f;have h1:((⟨#[45]⟩:ByteArray).size:Int)=1:=rfl;rw[h1]
 by_cases h:0<s.size
 ·rw[if_pos (by omega),if_pos (by omega),if_pos (by omega)];have e:=Kv s h;have e2:(⟨#[45]⟩:ByteArray).toList=[45]:=by rw[ByteArray.toList_eq]
  rw[e2,show((1:Int).toNat)=1 from rfl,e];simp only[Option.bind_some];unfold body minus
  by_cases h2:bt s 0=45
  ·rw[decide_eq_true h2,if_pos rfl,if_pos (by omega),if_pos (by omega)];simp[h,h2]
  ·rw[decide_eq_false h2];simp[h2]
 ·rw[if_neg (by omega)];simp only[Option.bind_some];unfold body minus;simp[h]
theorem uF (s:ByteArray)(w:World)(h:lU s):Calls Tryz.prog 112 #[.string s] w fun e w'=>∃g xs,e= .returned (.pointer (some ⟨g,0,none⟩))∧w.heap.size≤g∧iy w' g false xs∧Wd xs∧val 4294967296 xs=dv s∧Below w.heap.size w w':=by
 obtain⟨b,he,hb⟩:=xJ s;obtain⟨k,hk⟩:=he.rounds;obtain rfl:=hb.2 h;have HK:=zM (zA hk h);clear hk hb he h;go_enter Tryz.func112,Tryz.ntmps112;go_wp2_with fail;refine(bM.calls k s true _ HK.out.1).mono ?_;rintro e w1 ⟨rfl,h1⟩;have hb1:=h1.below;have HF:=zM hb1;clear h1 hb1;go_wp2_with fail;refine(uO w1.heap.size s 10 _ _ _ (bZ w1 _) HK.out.2.1 (by have:=HK.out.2.2.1;omega) HK.out.2.2.2.2).mono ?_;rintro e w2 ⟨xs,rfl,h1,h2,h3,h4⟩;have hb2:Below w.heap.size w w2:=ah HF.out HF.out.size ((gm.dU (ag (Below.refl _ _) _) h4).below (fun k hk=>by subst hk;exact Nat.le_refl _));have HG:=zM (zA HF.out.size (zA h3 (zA h1 (zA h2 hb2))));clear h1 h2 h3 h4 hb2;go_wp2_with fail;go_ret;exact⟨w1.heap.size,xs,rfl,HG.out⟩
theorem Eh (s:ByteArray)(w:World)(h:¬lU s):Calls Tryz.prog 112 #[.string s] w fun e w'=>e= .returned (.pointer none)∧Below w.heap.size w w':=by
 obtain⟨b,he,hb⟩:=xJ s;obtain⟨k,hk⟩:=he.rounds;obtain rfl:b=false:=by cases b with|false=>rfl|true=>exact absurd (hb.1 rfl) h
 have HK:=zM hk;clear hk hb he h;go_enter Tryz.func112,Tryz.ntmps112;go_wp2_with fail;refine(bM.calls k s false _ HK.out).mono ?_;rintro e w1 ⟨rfl,h1⟩;have hb1:=h1.below;have HF:=zM hb1;clear h1 hb1;go_wp2_with fail;go_ret;exact⟨rfl,HF.out⟩
theorem TG (s:ByteArray)(w:World)(h:uk s):Calls Tryz.prog 111 #[.string s] w fun e w'=>∃g xs,e= .returned (.pointer (some ⟨g,0,none⟩))∧w.heap.size≤g∧iy w' g (minus s) xs∧Wd xs∧val 4294967296 xs=dv (body s)∧Below w.heap.size w w':=by
 have HK:=zM h;obtain⟨m,hm⟩:∃m,minus s=m:=⟨_,rfl⟩;have HC:=zM (yF s);have HM:=zM hm;rw[hm];clear h hm;go_enter Tryz.func111,Tryz.ntmps111;go_wp2_with fail;refine(strings_CutPrefix.calls s ⟨#[45]⟩ (body s) m _ (by rw[HC.out,HM.out])).mono ?_;rintro e w1 ⟨rfl,h1⟩;have hb1:=h1.below;have HF:=zM hb1;clear h1 hb1;go_wp2_with fail;refine(uF (body s) _ HK.out.1).mono ?_;rintro e w2 ⟨g,xs,rfl,h1,h2,h3,h4,h5⟩;have HG:=zM (zA (Nat.le_trans HF.out.size h1) (zA h2 (zA h3 (zA h4 (ah HF.out HF.out.size h5)))));clear h1 h2 h3 h4 h5;cases m with
 |false=>
  go_wp2_with fail;go_ret;exact⟨g,xs,rfl,HG.out⟩
 |true=>
  have hx:xs≠[]:=by
   intro e;have h1:=HG.out.2.2.2.1;rw[e]at h1;exact HK.out.2 HM.out (by simpa[val]using h1.symm)
  have hs:wC false xs=1:=by simp[wC,hx]
  have HX:=zM (zA hx hs);clear hx hs;go_wp2_with fail;refine(jL g 0 false xs _ HG.out.2.1.c).mono ?_;rintro e w' ⟨rfl,rfl⟩;rw[HX.out.2];obtain⟨A,c,hb,_⟩:=HG.out.2.1;have HB:=zM hb;clear hb;go_wp2_with fail;refine(XH g g 0 false xs _ _ _ HB.out HG.out.2.1.c HG.out.2.2.1).mono ?_;rintro e w3 ⟨rfl,h1,h2⟩;have HH:=zM (zA h1 h2);clear h1 h2;go_wp2_with fail;go_ret;refine⟨g,xs,rfl,HG.out.1,?_,HG.out.2.2.1,HG.out.2.2.2.1,?_⟩
  ·have h:=HH.out.1;have e:(!false&& !xs.isEmpty)=true:=by cases xs with|nil=>exact absurd rfl HX.out.1|cons _ _=>rfl
   rwa [e]at h
  ·exact(gm.dU HG.out.2.2.2.2 HH.out.2).below (fun k hk=>by subst hk;exact HG.out.1)
def kL (n d:ByteArray):Prop:=uk n∧lU d∧dv d≠0∧ja (dv (body n)) (dv d)=1
def uj (s:ByteArray)(w:World)(p:Option Addr):Prop:=(uk s∧∃g xs,p=some ⟨g,0,none⟩∧iy w g (minus s) xs∧Wd xs∧val 4294967296 xs=dv (body s))∨(¬uk s∧p=none)
def Dq (s:ByteArray)(w:World)(p:Option Addr):Prop:=(lU s∧∃g xs,p=some ⟨g,0,none⟩∧iy w g false xs∧Wd xs∧val 4294967296 xs=dv s)∨(¬lU s∧p=none)
theorem uj.below {s:ByteArray}{w w1:World}{p:Option Addr}(h:uj s w p)(hb:Below w.heap.size w w1):uj s w1 p:=by
 rcases h with⟨h,g,xs,h1,h2,h3⟩|h
 ·exact .inl ⟨h,g,xs,h1,h2.below hb,h3⟩
 ·exact .inr h
theorem Dq.below {s:ByteArray}{w w1:World}{p:Option Addr}(h:Dq s w p)(hb:Below w.heap.size w w1):Dq s w1 p:=by
 rcases h with⟨h,g,xs,h1,h2,h3⟩|h
 ·exact .inl ⟨h,g,xs,h1,h2.below hb,h3⟩
 ·exact .inr h
theorem Ls (s:ByteArray)(w:World):Calls Tryz.prog 112 #[.string s] w fun e w'=>∃p,e= .returned (.pointer p)∧Dq s w' p∧Below w.heap.size w w':=by
 by_cases h:lU s
 ·exact(uF s w h).mono fun e w' ⟨g,xs,he,_,h1,h2,h3,h4⟩=>⟨_,he,.inl ⟨h,g,xs,rfl,h1,h2,h3⟩,h4⟩
 ·exact(Eh s w h).mono fun e w' ⟨he,h4⟩=>⟨_,he,.inr ⟨h,rfl⟩,h4⟩
theorem Yw (s:ByteArray)(w:World)(h:¬uk s):Calls Tryz.prog 111 #[.string s] w fun e w'=>e= .returned (.pointer none)∧Below w.heap.size w w':=by
 have HK:=zM h;obtain⟨m,hm⟩:∃m,minus s=m:=⟨_,rfl⟩;have HC:=zM (yF s);have HM:=zM hm;clear h hm
 by_cases hn:lU (body s)
 ·have HN:=zM hn
  have hm2:m=true:=by
   cases m with
   |true=>rfl
   |false=>exact absurd ⟨hn,fun h=>by rw[HM.out]at h;cases h⟩ HK.out
  have hz:dv (body s)=0:=Classical.byContradiction fun h=>HK.out ⟨hn,fun _=>h⟩
  have HZ:=zM hz;subst hm2;clear hn hz;go_enter Tryz.func111,Tryz.ntmps111;go_wp2_with fail;refine(strings_CutPrefix.calls s ⟨#[45]⟩ (body s) true _ (by rw[HC.out,HM.out])).mono ?_;rintro e w1 ⟨rfl,h1⟩;have hb1:=h1.below;have HF:=zM hb1;clear h1 hb1;go_wp2_with fail;refine(uF (body s) _ HN.out).mono ?_;rintro e w2 ⟨g,xs,rfl,h1,h2,h3,h4,h5⟩;have hx:xs=[]:=by rw[HZ.out]at h4;exact(h3.zero).1 h4
  have hs:wC false xs=0:=by rw[hx];rfl
  have HG:=zM (zA h2 (zA hs (ah HF.out HF.out.size h5)));clear h1 h2 h3 h4 h5 hx hs;go_wp2_with fail;refine(jL g 0 false xs _ HG.out.1.c).mono ?_;rintro e w' ⟨rfl,rfl⟩;rw[HG.out.2.1];go_wp2_with fail;go_ret;exact⟨rfl,HG.out.2.2⟩
 ·have HN:=zM hn;clear hn;go_enter Tryz.func111,Tryz.ntmps111;go_wp2_with fail;refine(strings_CutPrefix.calls s ⟨#[45]⟩ (body s) m _ (by rw[HC.out,HM.out])).mono ?_;rintro e w1 ⟨rfl,h1⟩;have hb1:=h1.below;have HF:=zM hb1;clear h1 hb1;go_wp2_with fail;refine(Eh (body s) _ HN.out).mono ?_;rintro e w2 ⟨rfl,h1⟩;have HG:=zM (ah HF.out HF.out.size h1);clear h1;go_wp2_with fail;go_ret;exact⟨rfl,HG.out⟩
theorem TF (s:ByteArray)(w:World):Calls Tryz.prog 111 #[.string s] w fun e w'=>∃p,e= .returned (.pointer p)∧uj s w' p∧Below w.heap.size w w':=by
 by_cases h:uk s
 ·exact(TG s w h).mono fun e w' ⟨g,xs,he,_,h1,h2,h3,h4⟩=>⟨_,he,.inl ⟨h,g,xs,rfl,h1,h2,h3⟩,h4⟩
 ·exact(Yw s w h).mono fun e w' ⟨he,h4⟩=>⟨_,he,.inr ⟨h,rfl⟩,h4⟩
theorem Tc (n d:ByteArray)(w:World):Calls Tryz.prog 79 #[.agg #[.string n,.string d]] w fun e w'=>∃p,e= .returned (.pointer p)∧(p.isSome=true↔kL n d)∧Below w.heap.size w w':=by
 go_enter Tryz.func79,Tryz.ntmps79;go_wp2_with fail;go_cut [3,4] (fun v3 v4 wc=>∃p q,v3= .pointer p∧v4= .pointer q∧Aside0 (uj n wc p∧Dq d wc q∧Below w.heap.size w wc))
 case first=>
  go_region_with ((first
   |(go_at_call 111;refine(TF n _).mono ?_;rintro e w1 ⟨p,rfl,h1,h2⟩;have c0:=cell_later (a:=⟨w.heap.size,0,none⟩) (v:= .string n) h2 (by first|assumption|simp);have c1:=cell_later (a:=⟨w.heap.size,1,none⟩) (v:= .string d) h2 (by first|assumption|simp);have HF:=zM (zA h1 h2);clear h1 h2)
   |(go_at_call 112;refine(Ls d _).mono ?_;rintro e w2 ⟨q,rfl,h1,h2⟩;have c0:=cell_later (a:=⟨w.heap.size,0,none⟩) (v:= .string n) h2 (by first|assumption|simp);have c1:=cell_later (a:=⟨w.heap.size,1,none⟩) (v:= .string d) h2 (by first|assumption|simp);have HG:=zM (zA h1 h2);clear h1 h2)))
  all_goals(go_wp2_with fail;go_simp;go_meet)
  all_goals(first
   |exact⟨p,q,rfl,rfl,⟨HF.out.1.below HG.out.2,HG.out.1,ah (ah (dB (ag (Below.refl _ _) _)) (by simp) HF.out.2) (by have:=HF.out.2.size;simp at this;omega) HG.out.2⟩⟩
   |exact⟨p,q,rfl,rfl,⟨HF.out.1,HG.out.1.below HF.out.2,ah (ah (dB (ag (Below.refl _ _) _)) (by simp) HG.out.2) (by have:=HG.out.2.size;simp at this;omega) HF.out.2⟩⟩)
 case rest=>
  obtain⟨p,q,rfl,rfl,HC⟩:=hcut;rcases HC.out.1 with⟨hw,gx,xs,rfl,hx,wx,vx⟩|⟨hw,rfl⟩
  ·rcases HC.out.2.1 with⟨hn,gy,ys,rfl,hy,wy,vy⟩|⟨hn,rfl⟩
   ·have HX:=zM (zA hw (zA hn (zA hx (zA hy (zA wx (zA wy (zA vx vy)))))));clear hw hn hx hy wx wy vx vy;go_wp2_with fail;refine(jL gy 0 false ys _ HX.out.2.2.2.1.c).mono ?_;rintro e w' ⟨rfl,rfl⟩
    by_cases hz:ys=[]
    ·have hs:wC false ys=0:=by rw[hz];rfl
     rw[hs];have HZ:=zM (show dv d=0 by rw[←HX.out.2.2.2.2.2.2.2,hz];rfl);clear hz hs;go_wp2_with fail;go_ret;exact⟨none,rfl,⟨fun h=>by simp at h,fun h=>absurd HZ.out h.2.2.1⟩,HC.out.2.2⟩
    ·have hs:wC false ys=1:=by simp[wC,hz]
     rw[hs];have HZ:=zM hz;clear hz hs;go_wp2_with fail;have hB2:Below wc.heap.size wc ((wc.alloc (Obj.cells #[Value.bool false,Value.slice none 0 0] 173)).alloc (Obj.cells #[Value.bool false,Value.slice none 0 0] 173)):=ag (ag (Below.refl _ _) _) _;have HB2:=zM hB2;clear hB2;refine(Dz (wc.heap.size+1) gx 0 (minus n) xs _ _ _ (by simpa using bZ (wc.alloc (.cells #[.bool false,.slice none 0 0] 173)) (.cells #[.bool false,.slice none 0 0] 173)) (HX.out.2.2.1.below HB2.out).c HX.out.2.2.2.2.1).mono ?_;rintro e w3 ⟨rfl,h1,h2⟩;have h3:Below wc.heap.size wc w3:=(gm.dU HB2.out h2).below (fun k hk=>by subst hk;omega)
     have hz0:w3.heap[wc.heap.size]?=some (.cells #[.bool false,.slice none 0 0] 173 (0,0)):=h2.blk (by
      have h:=bZ wc (.cells #[.bool false,.slice none 0 0] 173)
      exact((ag (Below.refl _ _) (.cells #[.bool false,.slice none 0 0] 173)).block _ (dV h)).trans h) (by omega)
     have H3:=zM (zA h1 (zA h3 hz0));clear h1 h2 h3 hz0;go_wp2_with fail;refine(KG wc.heap.size (wc.heap.size+1) gy 0 0 false false xs ys _ _ _ _ _ H3.out.2.2 H3.out.1.c (HX.out.2.2.2.1.below H3.out.2.1).c HX.out.2.2.2.2.1 HX.out.2.2.2.2.2.1).mono ?_;rintro e w4 ⟨gs,rfl,h1,h2,h3,h4⟩;have H4:=zM (zA h1 (zA h2 (zA h3 ((gm.dU H3.out.2.1 h4).below (fun k hk=>by subst hk;exact Nat.le_refl _)))));clear h1 h2 h3 h4;go_wp2_with fail;refine(jw 1 w4 (by omega) (by omega)).mono ?_;rintro e w5 ⟨g1,os,rfl,h1,h2,h3,h4,h5⟩;have H5:=zM (zA (H4.out.1.below h5) (zA h2 (zA h3 (zA h4 (ah H4.out.2.2.2 H4.out.2.2.2.size h5)))));clear h1 h2 h3 h4 h5;obtain⟨z,hz⟩:∃z,Ir (num false gs) (num false os)=z:=⟨_,rfl⟩;go_wp2_with fail;refine(JV wc.heap.size 0 g1 0 false false gs os w5 H5.out.1.c H5.out.2.1.c H4.out.2.1 H5.out.2.2.1 (fun h=>by cases h) (fun h=>by cases h)).mono ?_;rintro e w6 ⟨rfl,h1⟩;rw[hz];have hG:z=Ir (ja (dv (body n)) (dv d)) 1:=by rw[←hz];simp only[num,H4.out.2.2.1,H5.out.2.2.2.1,HX.out.2.2.2.2.2.2.1,HX.out.2.2.2.2.2.2.2];rfl
     have h2:=h1.below;have H6:=zM (zA hG (ah H5.out.2.2.2.2 H5.out.2.2.2.2.size h2));clear h1 h2 hG hz
     by_cases hz:z=0
     ·have hz1:(z==0)=true:=beq_iff_eq.mpr hz;have hz2:(z !=0)=false:=bne_eq_false_iff_eq.mpr hz;have HZ2:=zM hz;clear hz;go_wp2_with fail;refine(oU w6.heap.size gx 0 gy 0 (minus n) false xs ys _ _ _ _ _ (bZ w6 _) ((HX.out.2.2.1.below H6.out.2).below (ag (Below.refl _ _) _)).c ((HX.out.2.2.2.1.below H6.out.2).below (ag (Below.refl _ _) _)).c HX.out.2.2.2.2.1 HX.out.2.2.2.2.2.1 HZ.out).mono ?_;rintro e w7 ⟨ps,qs,rfl,h1,h2,h3⟩;have H7:=zM ((gm.dU (ag (Below.refl _ _) _) h3).below (fun k hk=>by subst hk;exact Nat.le_refl _));clear h1 h2 h3;go_wp2_with fail;go_ret;refine⟨_,rfl,⟨fun _=>⟨HX.out.1,HX.out.2.1,?_,?_⟩,fun _=>rfl⟩,ah HC.out.2.2 HC.out.2.2.size (ah H6.out.2 H6.out.2.size H7.out)⟩
      ·rw[←HX.out.2.2.2.2.2.2.2];have:=HX.out.2.2.2.2.2.1.pos HZ.out;omega
      ·have h:=H6.out.1;rw[HZ2.out]at h;unfold Ir at h;split at h
       ·omega
       ·split at h
        ·assumption
        ·omega
     ·have hz1:(z==0)=false:=beq_eq_false_iff_ne.mpr hz;have hz2:(z !=0)=true:=bne_iff_ne.mpr hz;have HZ2:=zM hz;clear hz;go_wp2_with fail;go_ret;refine⟨none,rfl,⟨fun h=>by simp at h,fun h=>?_⟩,ah HC.out.2.2 HC.out.2.2.size H6.out.2⟩;have h1:=H6.out.1;rw[h.2.2.2]at h1;exact absurd h1 HZ2.out
   ·have HN:=zM hn;clear hn hw hx wx vx;go_wp2_with fail;go_ret;exact⟨none,rfl,⟨fun h=>by simp at h,fun h=>absurd h.2.1 HN.out⟩,HC.out.2.2⟩
  ·have HN:=zM hw;clear hw;go_wp2_with fail;go_ret;exact⟨none,rfl,⟨fun h=>by simp at h,fun h=>absurd h.1 HN.out⟩,HC.out.2.2⟩
theorem xW (n d:ByteArray)(w:World):Calls Tryz.prog 43 #[.agg #[.string n,.string d]] w fun e w'=>∃b,e= .returned (.bool b)∧(b=true↔kL n d)∧Below w.heap.size w w':=by
 go_enter Tryz.func43,Tryz.ntmps43;go_wp2_with fail;refine(Tc n d _).mono ?_;rintro e w1 ⟨p,rfl,h1,h2⟩;have HF:=zM (zA h1 (ah (ag (Below.refl w.heap.size w) (.cells #[.string n,.string d] 39)) (by simp) h2));clear h1 h2;go_wp2_with fail;go_ret;refine⟨p.isSome,?_,HF.out⟩;cases p<;>rfl
def mf (n d:ByteArray):ByteArray:=if(d.toList==[49])=true then n else n++⟨#[47]⟩++d
theorem Q5 (s:ByteArray):s.size≤(body s).size+1:=by
 unfold body;split
 ·simp only[ByteArray.size_extract];omega
 ·omega
theorem kL.sizes {n d:ByteArray}(h:kL n d):n.size≤601∧d.size≤600:=by
 have h1:=h.1.1.2.1;have h2:=h.2.1.2.1;have:=Q5 n;omega
theorem Jb (n d:ByteArray)(w:World)(h:kL n d):Calls Tryz.prog 121 #[.agg #[.string n,.string d]] w fun e w'=>e= .returned (.tuple #[.string (mf n d),.int .i64 0])∧Below w.heap.size w w':=by
 have hs:=h.sizes;have l1:¬9223372036854775807<n.size+1:=by omega
 have l2:¬9223372036854775807<n.size+1+d.size:=by omega
 have HR:=zM h;clear hs h;go_enter Tryz.func121,Tryz.ntmps121;go_wp2_with fail;refine(xW n d _).mono ?_;rintro e w1 ⟨b,rfl,h1,h2⟩;obtain rfl:=h1.2 HR.out;have c0:=cell_later (a:=⟨w.heap.size,0,none⟩) (v:= .string n) h2 (by simp);have c1:=cell_later (a:=⟨w.heap.size,1,none⟩) (v:= .string d) h2 (by simp);have HF:=zM (ah (ag (Below.refl w.heap.size w) (.cells #[.string n,.string d] 39)) (by simp) h2);clear h1 h2
 by_cases hd:(d.toList==[49])=true
 ·have HD:=zM hd;go_wp2_with fail;go_ret2;have e:mf n d=n:=if_pos HD.out;exact⟨by rw[e];rfl,HF.out⟩
 ·have HD:=zM hd;have hd2:(d.toList==[49])=false:=Bool.eq_false_iff.mpr hd;clear hd;go_wp2_with fail;go_ret2;have e:mf n d=n++⟨#[47]⟩++d:=if_neg HD.out;exact⟨by rw[e];rfl,HF.out⟩
theorem xK (n d:ByteArray)(w:World)(h:kL n d):Calls Tryz.prog 86 #[.agg #[.string n,.string d]] w fun e w'=>e= .returned (.string (mf n d))∧Below w.heap.size w w':=by
 have HR:=zM h;clear h;go_enter Tryz.func86,Tryz.ntmps86;go_wp2_with fail;refine(Jb n d _ HR.out).mono ?_;rintro e w1 ⟨rfl,h2⟩;have HF:=zM (ah (ag (Below.refl w.heap.size w) (.cells #[.string n,.string d] 39)) (by simp) h2);clear h2;go_wp2_with fail;go_ret;exact⟨rfl,HF.out⟩
theorem EI {s:ByteArray}(h:0<s.size):s.toList.isEmpty=false:=by
 rw[ByteArray.toList_eq];have h1:=bV s;cases hh:s.data.toList with
 |nil=>rw[hh]at h1;simp at h1;omega
 |cons a b=>rfl
theorem ML {s:ByteArray}(h:s.size=0):s.toList.isEmpty=true:=by
 rw[ByteArray.toList_eq];have h1:=bV s;rw[List.isEmpty_iff];exact List.eq_nil_of_length_eq_zero (by omega)
theorem IU {s:ByteArray}(h:(s.toList==[48])=true):s=⟨#[48]⟩:=by
 rw[ByteArray.toList_eq]at h;have e2:s.data.toList=[48]:=by simpa using h
 cases s;rename_i a;cases a;simpa using e2
def UE (n d s:ByteArray):Prop:=kL n d↔(lU s∧lU d∧dv d≠0∧ja (dv s) (dv d)=1)
theorem PK {n d:ByteArray}(h:minus n=false):UE n d n:=by
 have hb:body n=n:=by unfold body;rw[h];rfl
 unfold UE kL uk;rw[hb,h];simp
theorem PI {n d:ByteArray}(h:minus n=true)(h0:((body n).toList==[48])=false):UE n d (body n):=by
 unfold UE kL uk;refine⟨fun h1=>⟨h1.1.1,h1.2⟩,fun h1=>⟨⟨h1.1,fun _ hz=>?_⟩,h1.2⟩⟩;have:=(iZ h1.1.canon 48 (by decide) (by decide)).2 (by rw[hz];rfl);rw[h0]at this;cases this
theorem OB {n d:ByteArray}(h:minus n=true)(h0:((body n).toList==[48])=true):¬kL n d:=by
 intro h1;refine h1.1.2 h ?_;rw[IU h0];rfl
theorem qP (n d:ByteArray)(w:World):Calls Tryz.prog 57 #[.agg #[.string n,.string d]] w fun e w'=>∃b,e= .returned (.bool b)∧(b=true↔kL n d)∧Below w.heap.size w w':=by
 obtain⟨b2,he2,hb2⟩:=qO d;obtain⟨k2,hk2⟩:=he2.rounds;have HD:=zM (zA hk2 hb2);clear he2 hk2 hb2;have hB0:Below w.heap.size w (w.alloc (.cells #[.string n,.string d] 39)):=ag (Below.refl _ _) _;have hc1:(w.alloc (.cells #[.string n,.string d] 39)).cell? ⟨w.heap.size,1,none⟩=some (.string d):=by simp
 have hc0:(w.alloc (.cells #[.string n,.string d] 39)).cell? ⟨w.heap.size,0,none⟩=some (.string n):=by simp
 obtain⟨W,hW⟩:∃W,w.alloc (.cells #[.string n,.string d] 39)=W:=⟨_,rfl⟩;rw[hW]at hB0 hc0 hc1;have HB:=zM hB0;clear hB0
 by_cases hm:minus n=true
 ·have hmm:0<n.size∧bt n 0=45:=by unfold minus at hm;exact of_decide_eq_true hm
  have q0:=eq_true hmm.1;have qe:=EI hmm.1;have hx:∀h:0<n.size,((n[0]'h).toNat:Int)=bt n 0:=dQ n 0;have h45:((bt n 0)==45)=true:=beq_iff_eq.mpr hmm.2;have hbody:body n=n.extract 1 n.size:=by unfold body;rw[if_pos hm]
  obtain⟨s,hs⟩:∃s,n.extract 1 n.size=s:=⟨_,rfl⟩;have hbs:body n=s:=hbody.trans hs
  have hsl:∀W,(Instr.slice 9 (.string n) (some (.int .i64 1)) none none).run Tryz.prog W= .ok (.string s) W:=by
   intro W;have h:=run_slice_string_from_if (P:=Tryz.prog) W 9 n .i64 1 Tryz.underlying9;rw[h];simp[hs];omega
  have HM:=zM (zA hm hbs);obtain⟨b1,he1,hb1⟩:=qO s;obtain⟨k1,hk1⟩:=he1.rounds;have HK:=zM (zA hk1 hb1);clear he1 hk1 hb1 hmm hm hbody hs hbs
  by_cases h0:(s.toList==[48])=true
  ·have H0:=zM h0;go_enter Tryz.func57,Tryz.ntmps57;go_wp2_with fail;go_ret;refine⟨false,rfl,⟨(fun h=>by cases h),fun h=>absurd h (OB HM.out.1 (by rw[HM.out.2];exact H0.out))⟩,HB.out⟩
  ·have h01:(s.toList==[48])=false:=Bool.eq_false_iff.mpr h0;have HT:=zM (show UE n d s by have h:=PI (n:=n) (d:=d) HM.out.1 (by rw[HM.out.2];exact h01);rwa [HM.out.2]at h);clear h0;go_enter Tryz.func57,Tryz.ntmps57;go_wp2_with fail;refine(ed.calls _ s b1 _ HK.out.1).mono ?_;rintro e w1 ⟨rfl,h1⟩;have hb1:=h1.below;have hc2:=cell_later hb1 hc1;have H1:=zM (ah HB.out HB.out.size hb1);clear h1 hb1 hc0 hc1 hW;cases b1 with
   |false=>
    go_wp2_with fail;go_ret;exact⟨false,rfl,⟨(fun h=>by cases h),fun h=>absurd (HK.out.2.2 ((HT.out.1 h).1)) (by simp)⟩,H1.out⟩
   |true=>
    go_wp2_with fail;refine(ed.calls _ d b2 _ HD.out.1).mono ?_;rintro e w2 ⟨rfl,h1⟩;have hb2:=h1.below;have hc3:=cell_later hb2 hc2;have H2:=zM (ah H1.out H1.out.size hb2);clear h1 hb2 hc2;cases b2 with
    |false=>
     go_wp2_with fail;go_ret;exact⟨false,rfl,⟨(fun h=>by cases h),fun h=>absurd (HD.out.2.2 ((HT.out.1 h).2.1)) (by simp)⟩,H2.out⟩
    |true=>
     have hcs:lU s:=HK.out.2.1 (by first|rfl|trivial);have hcd:lU d:=HD.out.2.1 (by first|rfl|trivial);have hd0:=iZ hcd.canon 48 (by decide) (by decide);have HC:=zM (zA hcs hcd)
     by_cases hz:(d.toList==[48])=true
     ·have hz2:(d.toList !=[48])=false:=by rw[bne,hz];rfl
      have HZ:=zM (show dv d=0 from by rw[hd0.1 hz];rfl);clear hcs hcd hd0;go_wp2_with fail;go_ret;exact⟨false,rfl,⟨(fun h=>by cases h),fun h=>absurd HZ.out ((HT.out.1 h).2.2.1)⟩,H2.out⟩
     ·have hz1:(d.toList==[48])=false:=Bool.eq_false_iff.mpr hz;have hz2:(d.toList !=[48])=true:=by rw[bne,hz1];rfl
      have HZ:=zM (show dv d≠0 from fun h=>hz (hd0.2 (by rw[h];rfl)));clear hcs hcd hd0 hz;go_wp2_with fail;refine(qw s d _ HC.out.1.canon HC.out.2.canon (by have:=HC.out.1.2.1;omega) (by have:=HC.out.2.2.1;omega)).mono ?_;rintro e w3 ⟨g,rfl,h1,h2,h3⟩;have hg1:=iZ h1 49 (by decide) (by decide);have H3:=zM (zA h2 (zA hg1 (ah H2.out H2.out.size h3)));clear h1 h2 h3 hg1
      by_cases hg:(g.toList==[49])=true
      ·have HG:=zM hg;go_wp2_with fail;go_ret;exact⟨true,rfl,⟨fun _=>HT.out.2 ⟨HC.out.1,HC.out.2,HZ.out,by rw[←H3.out.1,H3.out.2.1.1 HG.out];rfl⟩,fun _=>rfl⟩,H3.out.2.2⟩
      ·have hg2:(g.toList==[49])=false:=Bool.eq_false_iff.mpr hg;have HG:=zM hg;clear hg;go_wp2_with fail;go_ret;exact⟨false,rfl,⟨(fun h=>by cases h),fun h=>absurd (H3.out.2.1.2 (by rw[H3.out.1,(HT.out.1 h).2.2.2];rfl)) HG.out⟩,H3.out.2.2⟩
 ·have hm2:minus n=false:=Bool.eq_false_iff.mpr hm;have HT:=zM (PK (d:=d) hm2);obtain⟨b1,he1,hb1⟩:=qO n;obtain⟨k1,hk1⟩:=he1.rounds;have HK:=zM (zA hk1 hb1);clear he1 hk1 hb1 hm2
  by_cases hz:n.size=0
  ·have qe:=ML hz;clear hm hz;go_enter Tryz.func57,Tryz.ntmps57;go_wp2_with fail;refine(ed.calls _ n b1 _ HK.out.1).mono ?_;rintro e w1 ⟨rfl,h1⟩;have hb1:=h1.below;have hc2:=cell_later hb1 hc1;have H1:=zM (ah HB.out HB.out.size hb1);clear h1 hb1 hc0 hc1 hW;cases b1 with
   |false=>
    go_wp2_with fail;go_ret;exact⟨false,rfl,⟨(fun h=>by cases h),fun h=>absurd (HK.out.2.2 ((HT.out.1 h).1)) (by simp)⟩,H1.out⟩
   |true=>
    go_wp2_with fail;refine(ed.calls _ d b2 _ HD.out.1).mono ?_;rintro e w2 ⟨rfl,h1⟩;have hb2:=h1.below;have hc3:=cell_later hb2 hc2;have H2:=zM (ah H1.out H1.out.size hb2);clear h1 hb2 hc2;cases b2 with
    |false=>
     go_wp2_with fail;go_ret;exact⟨false,rfl,⟨(fun h=>by cases h),fun h=>absurd (HD.out.2.2 ((HT.out.1 h).2.1)) (by simp)⟩,H2.out⟩
    |true=>
     have hcs:lU n:=HK.out.2.1 (by first|rfl|trivial);have hcd:lU d:=HD.out.2.1 (by first|rfl|trivial);have hd0:=iZ hcd.canon 48 (by decide) (by decide);have HC:=zM (zA hcs hcd)
     by_cases hz:(d.toList==[48])=true
     ·have hz2:(d.toList !=[48])=false:=by rw[bne,hz];rfl
      have HZ:=zM (show dv d=0 from by rw[hd0.1 hz];rfl);clear hcs hcd hd0;go_wp2_with fail;go_ret;exact⟨false,rfl,⟨(fun h=>by cases h),fun h=>absurd HZ.out ((HT.out.1 h).2.2.1)⟩,H2.out⟩
     ·have hz1:(d.toList==[48])=false:=Bool.eq_false_iff.mpr hz;have hz2:(d.toList !=[48])=true:=by rw[bne,hz1];rfl
      have HZ:=zM (show dv d≠0 from fun h=>hz (hd0.2 (by rw[h];rfl)));clear hcs hcd hd0 hz;go_wp2_with fail;refine(qw n d _ HC.out.1.canon HC.out.2.canon (by have:=HC.out.1.2.1;omega) (by have:=HC.out.2.2.1;omega)).mono ?_;rintro e w3 ⟨g,rfl,h1,h2,h3⟩;have hg1:=iZ h1 49 (by decide) (by decide);have H3:=zM (zA h2 (zA hg1 (ah H2.out H2.out.size h3)));clear h1 h2 h3 hg1
      by_cases hg:(g.toList==[49])=true
      ·have HG:=zM hg;go_wp2_with fail;go_ret;exact⟨true,rfl,⟨fun _=>HT.out.2 ⟨HC.out.1,HC.out.2,HZ.out,by rw[←H3.out.1,H3.out.2.1.1 HG.out];rfl⟩,fun _=>rfl⟩,H3.out.2.2⟩
      ·have hg2:(g.toList==[49])=false:=Bool.eq_false_iff.mpr hg;have HG:=zM hg;clear hg;go_wp2_with fail;go_ret;exact⟨false,rfl,⟨(fun h=>by cases h),fun h=>absurd (H3.out.2.1.2 (by rw[H3.out.1,(HT.out.1 h).2.2.2];rfl)) HG.out⟩,H3.out.2.2⟩
  ·have qe:=EI (show 0<n.size by omega);have q0:=eq_true (show 0<n.size by omega);have hx:∀h:0<n.size,((n[0]'h).toNat:Int)=bt n 0:=dQ n 0;have h45:((bt n 0)==45)=false:=beq_eq_false_iff_ne.mpr (fun h=>hm (by unfold minus;exact decide_eq_true ⟨by omega,h⟩));clear hm hz;go_enter Tryz.func57,Tryz.ntmps57;go_wp2_with fail;refine(ed.calls _ n b1 _ HK.out.1).mono ?_;rintro e w1 ⟨rfl,h1⟩;have hb1:=h1.below;have hc2:=cell_later hb1 hc1;have H1:=zM (ah HB.out HB.out.size hb1);clear h1 hb1 hc0 hc1 hW;cases b1 with
   |false=>
    go_wp2_with fail;go_ret;exact⟨false,rfl,⟨(fun h=>by cases h),fun h=>absurd (HK.out.2.2 ((HT.out.1 h).1)) (by simp)⟩,H1.out⟩
   |true=>
    go_wp2_with fail;refine(ed.calls _ d b2 _ HD.out.1).mono ?_;rintro e w2 ⟨rfl,h1⟩;have hb2:=h1.below;have hc3:=cell_later hb2 hc2;have H2:=zM (ah H1.out H1.out.size hb2);clear h1 hb2 hc2;cases b2 with
    |false=>
     go_wp2_with fail;go_ret;exact⟨false,rfl,⟨(fun h=>by cases h),fun h=>absurd (HD.out.2.2 ((HT.out.1 h).2.1)) (by simp)⟩,H2.out⟩
    |true=>
     have hcs:lU n:=HK.out.2.1 (by first|rfl|trivial);have hcd:lU d:=HD.out.2.1 (by first|rfl|trivial);have hd0:=iZ hcd.canon 48 (by decide) (by decide);have HC:=zM (zA hcs hcd)
     by_cases hz:(d.toList==[48])=true
     ·have hz2:(d.toList !=[48])=false:=by rw[bne,hz];rfl
      have HZ:=zM (show dv d=0 from by rw[hd0.1 hz];rfl);clear hcs hcd hd0;go_wp2_with fail;go_ret;exact⟨false,rfl,⟨(fun h=>by cases h),fun h=>absurd HZ.out ((HT.out.1 h).2.2.1)⟩,H2.out⟩
     ·have hz1:(d.toList==[48])=false:=Bool.eq_false_iff.mpr hz;have hz2:(d.toList !=[48])=true:=by rw[bne,hz1];rfl
      have HZ:=zM (show dv d≠0 from fun h=>hz (hd0.2 (by rw[h];rfl)));clear hcs hcd hd0 hz;go_wp2_with fail;refine(qw n d _ HC.out.1.canon HC.out.2.canon (by have:=HC.out.1.2.1;omega) (by have:=HC.out.2.2.1;omega)).mono ?_;rintro e w3 ⟨g,rfl,h1,h2,h3⟩;have hg1:=iZ h1 49 (by decide) (by decide);have H3:=zM (zA h2 (zA hg1 (ah H2.out H2.out.size h3)));clear h1 h2 h3 hg1
      by_cases hg:(g.toList==[49])=true
      ·have HG:=zM hg;go_wp2_with fail;go_ret;exact⟨true,rfl,⟨fun _=>HT.out.2 ⟨HC.out.1,HC.out.2,HZ.out,by rw[←H3.out.1,H3.out.2.1.1 HG.out];rfl⟩,fun _=>rfl⟩,H3.out.2.2⟩
      ·have hg2:(g.toList==[49])=false:=Bool.eq_false_iff.mpr hg;have HG:=zM hg;clear hg;go_wp2_with fail;go_ret;exact⟨false,rfl,⟨(fun h=>by cases h),fun h=>absurd (H3.out.2.1.2 (by rw[H3.out.1,(HT.out.1 h).2.2.2];rfl)) HG.out⟩,H3.out.2.2⟩
theorem Jh (n d:ByteArray)(w:World)(h:kL n d):Calls Tryz.prog 58 #[.agg #[.string n,.string d]] w fun e w'=>e= .returned (.tuple #[.string (mf n d),.int .i64 0])∧Below w.heap.size w w':=by
 have hs:=h.sizes;have l1:¬9223372036854775807<n.size+1:=by omega
 have l2:¬9223372036854775807<n.size+1+d.size:=by omega
 have HR:=zM h;clear hs h;go_enter Tryz.func58,Tryz.ntmps58;go_wp2_with fail;refine(qP n d _).mono ?_;rintro e w1 ⟨b,rfl,h1,h2⟩;obtain rfl:=h1.2 HR.out;have c0:=cell_later (a:=⟨w.heap.size,0,none⟩) (v:= .string n) h2 (by simp);have c1:=cell_later (a:=⟨w.heap.size,1,none⟩) (v:= .string d) h2 (by simp);have HF:=zM (ah (ag (Below.refl w.heap.size w) (.cells #[.string n,.string d] 39)) (by simp) h2);clear h1 h2
 by_cases hd:(d.toList==[49])=true
 ·have HD:=zM hd;go_wp2_with fail;go_ret2;have e:mf n d=n:=if_pos HD.out;exact⟨by rw[e];rfl,HF.out⟩
 ·have HD:=zM hd;have hd2:(d.toList==[49])=false:=Bool.eq_false_iff.mpr hd;clear hd;go_wp2_with fail;go_ret2;have e:mf n d=n++⟨#[47]⟩++d:=if_neg HD.out;exact⟨by rw[e];rfl,HF.out⟩
def EV (x:iU)(A:Option Addr)(c:Nat):Value:= .agg #[.int .i64 x.f0,.string x.f1,.string x.f2.f0,.string x.f2.f1,.string x.f3.f0,.string x.f3.f1,.string x.f4,.int .i64 x.f5,.slice A x.f6.length c,.int .i64 x.f7,.bool x.f8]
def Bounds (x:iU):Prop:=1≤x.f0∧x.f0≤4096∧0≤x.f7∧x.f7≤4096∧0≤x.f5∧x.f5≤1000000
open Classical in
noncomputable def iK (x:iU):Int:=if Bounds x then(if kL x.f2.f0 x.f2.f1∧kL x.f3.f0 x.f3.f1 then(if minus x.f3.f0=true then 9 else if 8<x.f6.length then 4 else 0)else 3)else 1
theorem fG {x:iU}(h:¬Bounds x):iK x=1:=by unfold iK;rw[if_neg h]
theorem lG {x:iU}(h:Bounds x)(h2:¬(kL x.f2.f0 x.f2.f1∧kL x.f3.f0 x.f3.f1)):iK x=3:=by unfold iK;rw[if_pos h,if_neg h2]
theorem rQ {x:iU}(h:Bounds x)(h2:kL x.f2.f0 x.f2.f1∧kL x.f3.f0 x.f3.f1)(h3:minus x.f3.f0=true):iK x=9:=by unfold iK;rw[if_pos h,if_pos h2,if_pos h3]
theorem uZ {x:iU}(h:Bounds x)(h2:kL x.f2.f0 x.f2.f1∧kL x.f3.f0 x.f3.f1)(h3:¬minus x.f3.f0=true)(h4:8<x.f6.length):iK x=4:=by unfold iK;rw[if_pos h,if_pos h2,if_neg h3,if_pos h4]
theorem CQ {x:iU}(h:Bounds x)(h2:kL x.f2.f0 x.f2.f1∧kL x.f3.f0 x.f3.f1)(h3:¬minus x.f3.f0=true)(h4:¬8<x.f6.length):iK x=0:=by unfold iK;rw[if_pos h,if_pos h2,if_neg h3,if_neg h4]
theorem kL.pos {n d:ByteArray}(h:kL n d):0<n.size:=by
 have h1:=h.1.1.1;unfold body at h1;split at h1
 ·rename_i hm;unfold minus at hm;exact(of_decide_eq_true hm).1
 ·exact h1
theorem U0 (x:iU)(A:Option Addr)(c:Nat)(w:World):Calls Tryz.prog 25 #[EV x A c] w fun e w'=>e= .returned (.int .i64 (iK x))∧Below w.heap.size w w':=by
 have oV:=zM (ag (Below.refl w.heap.size w) (.cells #[.int .i64 x.f0,.string x.f1,.string x.f2.f0,.string x.f2.f1,.string x.f3.f0,.string x.f3.f1,.string x.f4,.int .i64 x.f5,.slice A x.f6.length c,.int .i64 x.f7,.bool x.f8] 41))
 by_cases c0:x.f0<1
 ·have d0:=zT c0;have HX:=zM (fG (x:=x) (fun h=>by unfold Bounds at h;omega));clear c0;go_enter Tryz.func25,Tryz.ntmps25;unfold EV;go_wp2_with fail;go_ret;exact⟨by rw[HX.out];rfl,oV.out⟩
 ·have d0:=zF c0
  by_cases c1:4096<x.f0
  ·have d1:=zT c1;have HX:=zM (fG (x:=x) (fun h=>by unfold Bounds at h;omega));clear c0 c1;go_enter Tryz.func25,Tryz.ntmps25;unfold EV;go_wp2_with fail;go_ret;exact⟨by rw[HX.out];rfl,oV.out⟩
  ·have d1:=zF c1
   by_cases c2:x.f7<0
   ·have d2:=zT c2;have HX:=zM (fG (x:=x) (fun h=>by unfold Bounds at h;omega));clear c0 c1 c2;go_enter Tryz.func25,Tryz.ntmps25;unfold EV;go_wp2_with fail;go_ret;exact⟨by rw[HX.out];rfl,oV.out⟩
   ·have d2:=zF c2
    by_cases c3:4096<x.f7
    ·have d3:=zT c3;have HX:=zM (fG (x:=x) (fun h=>by unfold Bounds at h;omega));clear c0 c1 c2 c3;go_enter Tryz.func25,Tryz.ntmps25;unfold EV;go_wp2_with fail;go_ret;exact⟨by rw[HX.out];rfl,oV.out⟩
    ·have d3:=zF c3
     by_cases c4:x.f5<0
     ·have d4:=zT c4;have HX:=zM (fG (x:=x) (fun h=>by unfold Bounds at h;omega));clear c0 c1 c2 c3 c4;go_enter Tryz.func25,Tryz.ntmps25;unfold EV;go_wp2_with fail;go_ret;exact⟨by rw[HX.out];rfl,oV.out⟩
     ·have d4:=zF c4
      by_cases c5:1000000<x.f5
      ·have d5:=zT c5;have HX:=zM (fG (x:=x) (fun h=>by unfold Bounds at h;omega));clear c0 c1 c2 c3 c4 c5;go_enter Tryz.func25,Tryz.ntmps25;unfold EV;go_wp2_with fail;go_ret;exact⟨by rw[HX.out];rfl,oV.out⟩
      ·have d5:=zF c5;have HB:=zM (show Bounds x by unfold Bounds;omega);clear c0 c1 c2 c3 c4 c5;go_enter Tryz.func25,Tryz.ntmps25;unfold EV;go_wp2_with fail;refine(qP x.f2.f0 x.f2.f1 _).mono ?_;rintro e w1 ⟨b1,rfl,h1,h2⟩;have g4:=cell_later (a:=⟨w.heap.size,4,none⟩) (v:= .string x.f3.f0) h2 (by simp);have g5:=cell_later (a:=⟨w.heap.size,5,none⟩) (v:= .string x.f3.f1) h2 (by simp);have g8:=cell_later (a:=⟨w.heap.size,8,none⟩) (v:= .slice A x.f6.length c) h2 (by simp);have H1:=zM (zA h1 (ah oV.out (by simp) h2));clear h1 h2;cases b1 with
       |false=>
        go_wp2_with fail;go_ret;exact⟨by rw[lG HB.out (fun h=>absurd (H1.out.1.2 h.1) (by simp))];rfl,H1.out.2⟩
       |true=>
        go_wp2_with fail;refine(qP x.f3.f0 x.f3.f1 _).mono ?_;rintro e w2 ⟨b2,rfl,h1,h2⟩;have k4:=cell_later h2 g4;have k8:=cell_later h2 g8;have H2:=zM (zA h1 (ah H1.out.2 H1.out.2.size h2));clear h1 h2 g4 g5 g8;cases b2 with
        |false=>
         go_wp2_with fail;go_ret;exact⟨by rw[lG HB.out (fun h=>absurd (H2.out.1.2 h.2) (by simp))];rfl,H2.out.2⟩
        |true=>
         have HR:=zM (zA (H1.out.1.1 (by first|rfl|trivial)) (H2.out.1.1 (by first|rfl|trivial)));have hp:=HR.out.2.pos;have q0:=eq_true hp;have hx:∀h:0<x.f3.f0.size,((x.f3.f0[0]'h).toNat:Int)=bt x.f3.f0 0:=dQ x.f3.f0 0
         by_cases hm:bt x.f3.f0 0=45
         ·have h45:((bt x.f3.f0 0)==45)=true:=beq_iff_eq.mpr hm;have HM:=zM (show minus x.f3.f0=true by unfold minus;exact decide_eq_true ⟨hp,hm⟩);clear hm hp;go_wp2_with fail;go_ret;exact⟨by rw[rQ HB.out HR.out HM.out];rfl,H2.out.2⟩
         ·have h45:((bt x.f3.f0 0)==45)=false:=beq_eq_false_iff_ne.mpr hm;have HM:=zM (show¬minus x.f3.f0=true by unfold minus;exact fun h=>hm (of_decide_eq_true h).2);clear hm hp
          by_cases hl:8<x.f6.length
          ·have l1:=zT hl;have l2:decide (8<(x.f6.length:Int))=true:=decide_eq_true (by omega);have HL:=zM hl;clear hl;go_wp2_with fail;go_ret;exact⟨by rw[uZ HB.out HR.out HM.out HL.out];rfl,H2.out.2⟩
          ·have l1:=zF hl;have l2:decide (8<(x.f6.length:Int))=false:=decide_eq_false (by omega);have HL:=zM hl;clear hl;go_wp2_with fail;go_ret;exact⟨by rw[CQ HB.out HR.out HM.out HL.out];rfl,H2.out.2⟩
end Go.Proofs.YthbdjmopolpjmaaGreatDoor.C
namespace Go.Proofs.YthbdjmopolpjmaaGreatDoor.M
open Go.RowKit Go.Proofs.YthbdjmopolpjmaaGreatDoorW.PrintWords Go.Proofs.YthbdjmopolpjmaaGreatDoorW.PrintLast Go.Proofs.YthbdjmopolpjmaaGreatDoorW.PrintMore Go.Proofs.YthbdjmopolpjmaaGreatDoor.F Go.Proofs.YthbdjmopolpjmaaGreatDoor.C
def l7 (c:Int):List Int:=if c=92 then[92,92]else if c=9 then[92,116]else if c=10 then[92,110]else[c]
def kS (l:List Int):List Int:=l.flatMap l7
def esc (s:ByteArray):ByteArray:=strOfNums (kS (bytesOf s))
def Bts (l:List Int):Prop:=∀x∈l,0≤x∧x<256
theorem JP (s:ByteArray):Bts (bytesOf s):=by
 intro x hx;unfold bytesOf at hx;obtain⟨b,_,rfl⟩:=List.mem_map.1 hx;have:=b.toNat_lt;omega
theorem Bts.append {a b:List Int}(h:Bts a)(k:Bts b):Bts (a++b):=fun x hx=>by
 rcases List.mem_append.1 hx with hx|hx
 ·exact h x hx
 ·exact k x hx
theorem UR {c:Int}(h:0≤c∧c<256):Bts (l7 c):=by
 unfold l7;split
 ·intro x hx;simp at hx;omega
 ·split
  ·intro x hx;simp at hx;omega
  ·split
   ·intro x hx;simp at hx;omega
   ·intro x hx;simp at hx;omega
theorem UQ {l:List Int}(h:Bts l):Bts (kS l):=by
 intro x hx;unfold kS at hx;obtain⟨c,hc,hx⟩:=List.mem_flatMap.1 hx;exact UR (h c hc) x hx
theorem Kr (c:Int):1≤(l7 c).length∧(l7 c).length≤2:=by
 unfold l7;split
 ·simp
 ·split
  ·simp
  ·split<;>simp
theorem Bg (a b:List Int):kS (a++b)=kS a++kS b:=by simp[kS]
theorem Vt (c:Int):kS [c]=l7 c:=by simp[kS]
theorem uA (l:List Int):l.length≤(kS l).length∧(kS l).length≤2*l.length:=by
 induction l with
 |nil=>simp[kS]
 |cons c l ih=>
  have h:=Kr c;have e:kS (c::l)=l7 c++kS l:=by simp[kS]
  rw[e,List.length_append,List.length_cons];omega
theorem JQ (s:ByteArray):bytesOf (esc s)=kS (bytesOf s):=jo _ (UQ (JP s))
theorem iO (s:ByteArray):strOfNums (bytesOf s)=s:=by
 unfold strOfNums bytesOf;rw[List.map_map];have h2:∀b∈s.data.toList,((fun i:Int=>UInt8.ofNat i.toNat)∘fun b:UInt8=>(b.toNat:Int)) b=b:=fun b _=>by simp
 rw[(List.map_congr_left h2).trans (List.map_id _)]
theorem AY {s t:ByteArray}(h:bytesOf s=bytesOf t):s=t:=by rw[←iO s,h,iO]
theorem DV (s:ByteArray):(esc s).size≤2*s.size:=by
 rw[←bytesOf_length,JQ];have:=(uA (bytesOf s)).2;rw[bytesOf_length]at this;exact this
theorem Dk (s:ByteArray)(i:Nat)(h:i<s.size):(bytesOf s).take (i+1)=(bytesOf s).take i++[bt s (i:Int)]:=by
 rw[List.take_succ_eq_append_getElem (by rw[bytesOf_length];exact h)]
 congr 2
 have h1:=gW s (i:Int);rw[←h1];unfold rd;rw[List.getD_eq_getElem?_getD,List.getElem?_eq_getElem (by rw[bytesOf_length];simpa using h)];simp
theorem Gi (s:ByteArray)(i:Nat)(h:i<s.size):kS ((bytesOf s).take (i+1))=kS ((bytesOf s).take i)++l7 (bt s (i:Int)):=by
 rw[Dk s i h,Bg,Vt]
theorem aeE (s:ByteArray)(hs:s.size≤17592186044416):∀(d i:Nat),i+d=s.size→∀k,d<k→bz.l0 k s (kS ((bytesOf s).take i)) (i:Int)=some (esc s):=by
 intro d
 induction d with
 |zero=>
  intro i hi k hk;obtain⟨k,rfl⟩:∃m,k=m+1:=⟨k- 1,by omega⟩;simp only[bz.l0];rw[if_neg (by omega),List.take_of_length_le (by rw[bytesOf_length];omega)];rfl
 |succ d ih=>
  intro i hi k hk;obtain⟨k,rfl⟩:∃m,k=m+1:=⟨k- 1,by omega⟩;have hlt:i<s.size:=by omega
  have hstep:=Gi s i hlt;have hw:wrap64 ((i:Int)+1)=((i+1:Nat):Int):=by rw[fD (by omega) (by omega)];omega
  have hnext:=ih (i+1) (by omega) k (by omega)
  have hl:(kS ((bytesOf s).take i)).length≤2*s.size:=by
   have h1:=(uA ((bytesOf s).take i)).2;have h2:((bytesOf s).take i).length≤s.size:=by rw[List.length_take,bytesOf_length];omega
   omega
  rw[hstep]at hnext;simp only[bz.l0];rw[if_pos (by omega),if_pos (by omega),hw];unfold l7 at hnext
  by_cases YM:bt s (i:Int)=92
  ·rw[if_pos YM]at hnext⊢;simp only[Option.bind_some];rw[if_pos (by simp;omega)];exact hnext
  ·rw[if_neg YM]at hnext⊢
   by_cases h9:bt s (i:Int)=9
   ·rw[if_pos h9]at hnext⊢;simp only[Option.bind_some];rw[if_pos (by simp;omega)];exact hnext
   ·rw[if_neg h9]at hnext⊢
    by_cases h10:bt s (i:Int)=10
    ·rw[if_pos h10]at hnext⊢;simp only[Option.bind_some];rw[if_pos (by simp;omega)];exact hnext
    ·rw[if_neg h10]at hnext⊢;rw[if_pos (by omega)];exact hnext
theorem aeD (s:ByteArray)(hs:s.size≤17592186044416):bz.f (s.size+1) s=some (esc s):=aeE s hs s.size 0 (by omega) _ (by omega)
def jn (ts:List ByteArray):ByteArray:=⟨(Lib.join (ts.map (·.data.toList)) [9]).toArray⟩
def RY:List ByteArray→List Int
 | []=>[]
 |t::ts=>bytesOf t++ts.flatMap (fun t=>9::bytesOf t)
theorem xq (ts:List ByteArray):bytesOf (jn ts)=RY ts:=by
 cases ts with
 |nil=>rfl
 |cons t ts=>
  unfold jn bytesOf;simp only[List.map_cons,Lib.join_cons,RY,List.map_append]
  congr 1
  unfold Lib.joinTail
  induction ts with
  |nil=>rfl
  |cons u ts ih=>
   simp only[List.map_cons,List.flatten_cons,List.map_append,List.flatMap_cons,ih];simp[bytesOf]
theorem aeb (ts:List ByteArray)(t:ByteArray):RY (ts++[t])=RY ts++(if ts=[]then[]else[9])++bytesOf t:=by
 cases ts with
 |nil=>simp[RY]
 |cons u ts=>simp[RY]
noncomputable def parts (x:iU):List ByteArray:=[⟨(Lib.itoa x.f0).toArray⟩,⟨(Lib.itoa x.f7).toArray⟩,⟨(Lib.itoa x.f5).toArray⟩,⟨(if x.f8 then #[120]else #[43])⟩,esc x.f1,mf x.f2.f0 x.f2.f1,mf x.f3.f0 x.f3.f1,esc x.f4]++x.f6.map esc
noncomputable def line (x:iU):List Int:=RY (parts x)++[10]
noncomputable def lines (l:List iU):List Int:=l.flatMap line
noncomputable def bad:List iU→Int→Option (Int×Int)
 | [],_=>none
 |x::l,i=>if iK x=0 then bad l (i+1)else some (iK x,i)
noncomputable def prt (l:List iU):ByteArray×Int×Int:=
 match bad l 0 with
 |some (e,i)=>(⟨#[]⟩,e,i)
 |none=>if 4096<l.length then(⟨#[]⟩,4,0)else if 65536<(lines l).length then(⟨#[]⟩,4,0)else(strOfNums (lines l),0,0)
theorem Oz (l:List iU)(i:Nat)(h:i<l.length):lines (l.take (i+1))=lines (l.take i)++line (l[i]'h):=by
 unfold lines;rw[List.take_succ_eq_append_getElem h,List.flatMap_append];simp only[List.flatMap_cons,List.flatMap_nil,List.append_nil]
theorem EZ (l:List iU)(i:Nat):(lines (l.take i)).length≤(lines l).length:=by
 have h:lines l=lines (l.take i)++lines (l.drop i):=by unfold lines;rw[←List.flatMap_append,List.take_append_drop]
 rw[h,List.length_append];omega
theorem aeF (ts:List ByteArray):Bts (RY ts):=by rw[←xq];exact JP _
theorem adV (x:iU):Bts (line x):=(aeF _).append (fun y hy=>by simp at hy;omega)
theorem afl (l:List iU):Bts (lines l):=by
 intro x hx;unfold lines at hx;obtain⟨c,_,hx⟩:=List.mem_flatMap.1 hx;exact adV c x hx
theorem UN {l:List iU}:∀{i:Int},bad l i=none↔∀x∈l,iK x=0:=by
 induction l with
 |nil=>intro i;simp[bad]
 |cons x l ih=>
  intro i;simp only[bad]
  by_cases h:iK x=0
  ·rw[if_pos h,ih];simp[h]
  ·rw[if_neg h];simp[h]
theorem ac9 {l:List iU}:∀{j:Nat} (i:Int) (hj:j<l.length),(∀k (hk:k<j),iK (l[k]'(by omega))=0)→iK (l[j]'hj)≠0→bad l i=some (iK (l[j]'hj),i+j):=by
 induction l with
 |nil=>intro j i hj;simp at hj
 |cons x l ih=>
  intro j i hj h0 h1;cases j with
  |zero=>
   simp only[bad,List.getElem_cons_zero]at h1⊢;rw[if_neg h1];simp
  |succ j=>
   have hx:iK x=0:=h0 0 (by omega);simp only[bad,List.getElem_cons_succ]at h1⊢;rw[if_pos hx,ih (i+1) (by simpa using hj) (fun k hk=>by simpa using h0 (k+1) (by omega)) h1]
   congr 2
   omega
theorem rZ {c:Int}(h1:c≠92)(h2:c≠9)(h3:c≠10):l7 c=[c]:=by unfold l7;rw[if_neg h1,if_neg h2,if_neg h3]
theorem DU {c:Int}(h:c=92∨c=9∨c=10):(l7 c).length=2:=by
 rcases h with rfl|rfl|rfl<;>rfl
theorem Gg (c:Int)(l:List Int):kS (c::l)=l7 c++kS l:=by simp[kS]
theorem Gh:∀{l:List Int},(kS l).length=l.length→kS l=l
 | [],_=>rfl
 |c::l,h=>by
  rw[Gg]at h⊢;rw[List.length_append,List.length_cons]at h;have h1:=Kr c;have h2:=(uA l).1;have h3:(l7 c).length=1:=by omega
  have h4:(kS l).length=l.length:=by omega
  rw[Gh h4]
  by_cases hc:c=92∨c=9∨c=10
  ·rw[DU hc]at h3;omega
  ·rw[rZ (fun e=>hc (.inl e)) (fun e=>hc (.inr (.inl e))) (fun e=>hc (.inr (.inr e)))];rfl
theorem Vu {s:ByteArray}(h:(kS (bytesOf s)).length=s.size):esc s=s:=by
 unfold esc;rw[Gh (by rw[bytesOf_length];exact h),iO]
theorem count_cons (l:List UInt8)(b c:UInt8):Lib.countByte (b::l) c=Lib.countByte l c+(if b=c then 1 else 0):=by
 unfold Lib.countByte;rw[List.count_cons]
 by_cases h:b=c<;>simp[h]
theorem Gj (s:ByteArray):(kS (bytesOf s)).length=s.size+Lib.countByte s.data.toList 10+Lib.countByte s.data.toList 9+Lib.countByte s.data.toList 92:=by
 have key:∀l:List UInt8,(kS (l.map fun b=>(b.toNat:Int))).length=l.length+Lib.countByte l 10+Lib.countByte l 9+Lib.countByte l 92:=by
  intro l
  induction l with
  |nil=>rfl
  |cons b l ih=>
   rw[List.map_cons,Gg,List.length_append,ih,count_cons,count_cons,count_cons,List.length_cons]
   by_cases h10:b=10
   ·subst h10;simp[l7];omega
   ·by_cases h9:b=9
    ·subst h9;simp[l7];omega
    ·by_cases YM:b=92
     ·subst YM;simp[l7];omega
     ·have h0:∀c:UInt8,b≠c→(b.toNat:Int)≠(c.toNat:Int):=fun c hc he=>hc (UInt8.toNat_inj.1 (by omega))
      rw[rZ (h0 92 YM) (h0 9 h9) (h0 10 h10),if_neg h10,if_neg h9,if_neg YM];simp;omega
 rw[←bV];exact key s.data.toList
end Go.Proofs.YthbdjmopolpjmaaGreatDoor.M
namespace Go.Proofs.YthbdjmopolpjmaaGreatDoor.C
open Go.RowKit Go.Proofs.YthbdjmopolpjmaaGreatDoorW.PrintWords Go.Proofs.YthbdjmopolpjmaaGreatDoorW.PrintLast Go.Proofs.YthbdjmopolpjmaaGreatDoorW.PrintMore Go.Proofs.YthbdjmopolpjmaaGreatDoor.F Go.Proofs.YthbdjmopolpjmaaGreatDoor.M
def hold (v:Value):Option (DataW Value×List MemPlace):=some (.held v,[])
def Wf (n:Int):Prop:=(Lit.int .i64 n).wf=true
def first(l:List iU)(id:Int):Option iU:=l.find? (fun x=>x.f0==id)
def BU (E:Nat)(l:List Int):List Value:=nums .u8 l++List.replicate (E- l.length) (.int .u8 0)
def Bf (W:World)(q E:Nat)(l:List Int):Prop:=W.heap[q]?=some (.cells (BU E l).toArray 5 (0,0))∧l.length≤E
theorem AX {E:Nat}{l:List Int}(h:l.length≤E):(BU E l).length=E:=by simp[BU,nums];omega
theorem Bf.start (W:World)(E:Nat):Bf (W.alloc (.cells (madeCells #[.int .u8 0] E) 5)) W.heap.size E []:=by
 refine⟨?_,by simp⟩;rw[bZ]
 congr 2
 apply Array.ext
 ·simp[BU,nums,size_madeCells]
 ·intro i h1 h2;have h1':i<E:=by simpa[size_madeCells]using h1
  simp[BU,nums,madeCells];rw[Nat.mod_one];rfl
theorem Bf.store {W:World}{q E:Nat}{l:List Int}(h:Bf W q E l)(hl:l.length<E)(x:Int):Bf (W.setCell ⟨q,l.length,none⟩ (.int .u8 x)) q E (l++[x]):=by
 refine⟨?_,by simp;omega⟩;have h1:=aN h.1 l.length (.int .u8 x);rw[h1]
 congr 2
 obtain⟨m,hm⟩:∃m,E- l.length=m+1:=⟨E- l.length- 1,by omega⟩;have hm2:E- (l++[x]).length=m:=by simp;omega
 simp only[List.setIfInBounds_toArray]
 congr 1
 unfold BU;rw[hm,hm2,nums_append,List.replicate_succ,List.set_append_right _ _ (by simp[nums])];simp[nums]
theorem Bf.copy {W:World}{q E:Nat}{l l2:List Int}(h:Bf W q E l)(hl:l.length+l2.length≤E):Bf (W.setRow q ((BU E l).toArray.toList.take l.length++nums .u8 l2++(BU E l).toArray.toList.drop (l.length+(nums .u8 l2).length)).toArray) q E (l++l2):=by
 refine⟨?_,by simp;omega⟩;rw[setRow_heap W q _ _ 5 _ h.1]
 congr 3
 unfold BU;have e1:(nums .u8 l).length=l.length:=nums_length _ _;have e2:(nums .u8 l2).length=l2.length:=nums_length _ _;rw[List.take_left' e1,e2,List.drop_append,nums_append,List.drop_of_length_le (by omega),e1,List.nil_append,List.drop_replicate]
 congr 2
 simp;omega
theorem Bf.cell {W:World}{q E:Nat}{l:List Int}(h:Bf W q E l)(j:Nat)(hj:j<l.length):W.cell? ⟨q,j,none⟩=some (.int .u8 (l.getD j 0)):=by
 rw[aj h.1 j];simp[BU,nums,List.getElem?_append,hj,List.getD_eq_getElem?_getD]
theorem Bf.at_ {W:World}{q E:Nat}{l:List Int}(h:Bf W q E l)(j:Nat)(hj:j<E):∃v,W.cell? ⟨q,j,none⟩=some v∧W.frozen? ⟨q,j,none⟩=false:=by
 have hlen:j<(BU E l).length:=by rw[AX h.2];exact hj
 exact⟨_,(aj h.1 j).trans (by rw[List.getElem?_toArray,List.getElem?_eq_getElem hlen]),au h.1 j⟩
theorem Bf.conv {W:World}{q E:Nat}{l:List Int}(h:Bf W q E l)(hl:l.length=E):(convert 50 9 (.slice (some ⟨q,0,none⟩) E E)).run Tryz.prog W= .ok (.string (strOfNums l)) W:=by
 refine run_convert_bytes_arg W 50 5 Tryz.underlying50 Tryz.underlying5 q 0 E E l hl (fun i hi=>?_) 9 Tryz.underlying9;rw[Nat.zero_add];exact h.cell i (by omega)
theorem Bf.lt {W:World}{q E:Nat}{l:List Int}(h:Bf W q E l):q<W.heap.size:=dV h.1
theorem Bf.drew {W:World}{q E:Nat}{l:List Int}(h:Bf W q E l):Bf W.drew q E l:=h
theorem Bf.Ye {W:World}{q E:Nat}{l l2:List Int}(h:Bf W q E l)(hl:l.length+l2.length≤E)(b c sLen:Nat)(hs:sLen=l2.length)(hc:∀j,j<l2.length→W.cell? ⟨b,j,none⟩=some (.int .u8 (l2.getD j 0)))(dLen dCap:Nat)(hd:dLen=E- l.length)(ty:TypeId):
  ∃W2,(Builtin.copy_ #[50,50] ty #[.slice (some ⟨q,l.length,none⟩) dLen dCap,.slice (some ⟨b,0,none⟩) sLen c]).run Tryz.prog W= .ok (goInt sLen) W2∧Bf W2 q E (l++l2)∧(∀B w0,B≤q→Below B w0 W→Below B w0 W2):=by
 have hr:=run_copy_row (P:=Tryz.prog) W 50 50 ty 5 q l.length dLen dCap ⟨b,0,none⟩ sLen c (BU E l).toArray 5 (nums .u8 l2) Tryz.underlying50 (by
   have h5:=info5;obtain⟨i,hi,hz⟩:=Option.map_eq_some_iff.1 h5;rw[hi];simp only[Prod.mk.injEq]at hz;simp[hz.2.1]) h.1 (by rw[nums_length,hs,hd];exact(Nat.min_eq_left (by omega)).symm) (fun j v hj=>by
   rw[add_plain]
   have hjl:j<l2.length:=by
    have:=(List.getElem?_eq_some_iff.1 hj).1;rw[nums_length]at this;exact this
   rw[hc j hjl,←hj];simp[nums,List.getD_eq_getElem?_getD,List.getElem?_eq_getElem hjl]) (by simp[AX h.2,nums_length];omega) (fun v hv=>by
   unfold nums at hv;obtain⟨x,_,rfl⟩:=List.mem_map.1 hv
   rfl)
 refine⟨_,hr.trans ?_,h.copy hl,fun B w0 hB hb=>?_⟩
 ·rw[nums_length,hs]
 ·exact hb.trans ⟨rfl,rfl,rfl,by simp[World.setRow],fun k hk=>setRow_other W q k _ (by omega)⟩
namespace Once
theorem disable (w:World):(callFunc 234 #[]).run Tryz.prog w= .ok (.value (.tuple #[])) w:=run_call_mark0 Tryz.func234 (by kernel_rfl) (by kernel_rfl) (by kernel_rfl) .disable (by kernel_rfl) w
theorem enable (w:World):(callFunc 236 #[]).run Tryz.prog w= .ok (.value (.tuple #[])) w:=run_call_mark0 Tryz.func236 (by kernel_rfl) (by kernel_rfl) (by kernel_rfl) .enable (by kernel_rfl) w
theorem acquire (a:Addr)(w:World):(callFunc 237 #[.pointer (some a)]).run Tryz.prog w= .ok (.value (.tuple #[])) w:=run_call_marked Tryz.func237 (by kernel_rfl) (by kernel_rfl) (by kernel_rfl) .acquire (by kernel_rfl) a w
theorem releaseMerge (a:Addr)(w:World):(callFunc 239 #[.pointer (some a)]).run Tryz.prog w= .ok (.value (.tuple #[])) w:=run_call_marked Tryz.func239 (by kernel_rfl) (by kernel_rfl) (by kernel_rfl) .releaseMerge (by kernel_rfl) a w
theorem store_deferred (a:Addr)(x:Value)(u:FrameMode)(w:World)(hc:w.cell? a=some x)(hz:w.frozen? a=false):
  CallsD Tryz.prog 168 #[.pointer (some a),.bool true] u w fun e u' w'=>u'=u∧(e= .returned (.tuple #[])∧w'=w.drew.setCell a (.int .u32 1)):=by
 have hc':w.drew.cell? a=some x:=by go_simp
 have hz':w.drew.frozen? a=false:=by go_simp
 have hst:=run_call_store (P:=Tryz.prog) Tryz.func213 (by kernel_rfl) (by kernel_rfl) (by kernel_rfl) (by kernel_rfl) (k:= .u32) (y:=1) hc' hz';go_enter_d Tryz.func168,Tryz.ntmps168;go_wp2;go_region_calls
 all_goals(go_end0;exact⟨rfl,rfl⟩)
theorem unlock_deferred (a:Addr)(u:FrameMode)(w:World)(hc:w.cell? a=some (.int .i32 1))(hz:w.frozen? a=false):
  CallsD Tryz.prog 167 #[.pointer (some a)] u w fun e u' w'=>u'=u∧(e= .returned (.tuple #[])∧w'=w.setCell a (.int .i32 0)):=by
 have hd:=disable;have he:=enable;have hr:=releaseMerge;have hadd:=run_call_add (P:=Tryz.prog) Tryz.func240 (by kernel_rfl) (by kernel_rfl) (by kernel_rfl) .i32 (by kernel_rfl) (y:= -1) (s:=0) hc hz (by simp[go_sem];rfl);have hcv:=run_convert_to_unsafe (P:=Tryz.prog) (src:=317) (dst:=113) Tryz.underlying317 Tryz.underlying113 (by kernel_rfl) hc;go_enter_d Tryz.func167,Tryz.ntmps167;go_wp2;go_end0;go_wp2;go_end0;exact⟨rfl,rfl⟩
theorem lock_free (a:Addr)(w:World)(hc:w.cell? a=some (.int .i32 0))(hz:w.frozen? a=false):
  Calls Tryz.prog 166 #[.pointer (some a)] w fun e w'=>e= .returned (.tuple #[])∧w'=w.setCell a (.int .i32 1):=by
 have hd:=disable;have he:=enable;have ha:=acquire;have hcas:=run_call_cas_hit (P:=Tryz.prog) Tryz.func235 (by kernel_rfl) (by kernel_rfl) (by kernel_rfl) .i32 (by kernel_rfl) (y:=1) hc hz;have hc':(w.setCell a (.int .i32 1)).cell? a=some (.int .i32 1):=World.cell?_setCell_same w a _ hc;have hcv:=run_convert_to_unsafe (P:=Tryz.prog) (src:=317) (dst:=113) Tryz.underlying317 Tryz.underlying113 (by kernel_rfl) hc';go_enter Tryz.func166,Tryz.ntmps166;go_wp2
 first|go_end0|(simp only[Exit.inBlock,Exit.then];refine bodyPost_ret (results_none rfl _ _ _) rfl ?_)|refine bodyPost_ret (results_none rfl _ _ _) rfl ?_
 go_wp2;go_end0;exact⟨rfl,rfl⟩
def ob (d s:Int)(r o:Value):Obj:= .cells #[.int .u32 d,.int .i32 s,.int .u32 0,r,o] 143 (0,0)
def Nk (g:Nat)(w:World)(o:Value)(R:Value→World→Prop):Prop:=∀W,gm (fun k=>k=g) w W→W.heap[g]?=some (ob 0 1 .nilIface o)→
 Calls Tryz.prog 88 #[.pointer (some ⟨g,0,none⟩)] W fun e W'=>e= .returned (.tuple #[])∧∃r o',W'.heap[g]?=some (ob 0 1 r o')∧R r W'∧gm (fun k=>k=g) W W'
def UD (g:Nat)(R:Value→World→Prop):Prop:=∀r W W',R r W→W'.os=W.os→(∀i,i≠g→W'.heap[i]?=W.heap[i]?)→R r W'
theorem vP (W:World)(g j:Nat)(u:Value):∀i,i≠g→(W.setCell ⟨g,j,none⟩ u).heap[i]?=W.heap[i]?:=fun i hi=>Below.heap_setCell W ⟨g,j,none⟩ u i hi
theorem Jl (W:World)(p:Addr)(u:Value):(W.setCell p u).os=W.os:=by unfold World.setCell;split<;>rfl
theorem Gz (a:Addr)(w:World)(h0:w.cell? a=some (.int .u32 0)):Calls Tryz.prog 122 #[.pointer (some a)] w fun e w'=>e= .returned (.bool false)∧w=w':=by
 have hl:=run_call_load (P:=Tryz.prog) Tryz.func165 (by kernel_rfl) (by kernel_rfl) (by kernel_rfl) .u32 (by kernel_rfl) h0;go_enter Tryz.func122,Tryz.ntmps122;go_wp2;go_ret;exact⟨rfl,rfl⟩
theorem Tq (g:Nat)(w:World)(o:Value)(R:Value→World→Prop)(hb:w.heap[g]?=some (ob 0 0 .nilIface o))(hR:UD g R)(hf:Nk g w o R):
  Calls Tryz.prog 123 #[.pointer (some ⟨g,0,none⟩),.func (.func 88) #[.pointer (some ⟨g,0,none⟩)] #[]] w fun e W'=>e= .returned (.tuple #[])∧∃r o',W'.heap[g]?=some (ob 1 0 r o')∧R r W'∧gm (fun k=>k=g) w W':=by
 have HF:=zM (zA hR hf);clear hR hf;unfold ob at hb;have c1:w.cell? ⟨g,1,none⟩=some (.int .i32 0):=(aj hb 1).trans rfl;have z1:w.frozen? ⟨g,1,none⟩=false:=au hb 1;have hb2:(w.setCell ⟨g,1,none⟩ (.int .i32 1)).heap[g]?=some (ob 0 1 .nilIface o):=aN hb 1 _;have HB2:=zM hb2;have c0:(w.setCell ⟨g,1,none⟩ (.int .i32 1)).cell? ⟨g,0,none⟩=some (.int .u32 0):=(aj hb2 0).trans rfl;have HL:=zM c0;have MV:=zM (show gm (fun k=>k=g) w (w.setCell ⟨g,1,none⟩ (.int .i32 1))from gm.setCell (S:=fun k=>k=g) (gm.refl _ _) ⟨g,1,none⟩ (.inl rfl) _);have hnot:∀(x:Bool) (w:World),(Op.unary .not (.bool x)).run Tryz.prog w= .ok (.bool (!x)) w:=fun _ _=>rfl
 clear hb hb2 c0;go_enter_defers Tryz.func123,Tryz.ntmps123;go_wp2_with (go_at_call 166;refine(lock_free ⟨g,1,none⟩ _ c1 z1).mono ?_;rintro e w' ⟨rfl,rfl⟩);go_wp2_with fail;refine(Gz _ _ HL.out).mono ?_;rintro e w' ⟨rfl,rfl⟩;go_wp2_with fail;refine(HF.out.2 _ MV.out HB2.out).mono ?_;rintro e w1 ⟨rfl,r,o',hb3,hr,hc⟩;have HX:=zM (zA hb3 (zA hr (MV.out.trans hc (fun i _ h=>h))));clear hb3 hr hc;go_wp2_with fail;have hb4:w1.heap[g]?=some (.cells #[.int .u32 0,.int .i32 1,.int .u32 0,r,o'] 143 (0,0)):=HX.out.1;have c0:w1.cell? ⟨g,0,none⟩=some (.int .u32 0):=(aj hb4 0).trans rfl;have z0:w1.frozen? ⟨g,0,none⟩=false:=au hb4 0;have hb5:w1.drew.heap[g]?=some (.cells #[.int .u32 0,.int .i32 1,.int .u32 0,r,o'] 143 (0,0)):=hb4;have hb6:(w1.drew.setCell ⟨g,0,none⟩ (.int .u32 1)).heap[g]?=some (.cells #[.int .u32 1,.int .i32 1,.int .u32 0,r,o'] 143 (0,0)):=aN hb5 0 _;have hb7:((w1.drew.setCell ⟨g,0,none⟩ (.int .u32 1)).setCell ⟨g,1,none⟩ (.int .i32 0)).heap[g]?=some (ob 1 0 r o'):=aN hb6 1 _;have c1:(w1.drew.setCell ⟨g,0,none⟩ (.int .u32 1)).cell? ⟨g,1,none⟩=some (.int .i32 1):=(aj hb6 1).trans rfl;have z1:(w1.drew.setCell ⟨g,0,none⟩ (.int .u32 1)).frozen? ⟨g,1,none⟩=false:=au hb6 1;refine leaves_cons (f:=168) (args:= #[.pointer (some ⟨g,0,none⟩),.bool true]) (by simp) (by simp[go_sem]) ?_;refine(store_deferred ⟨g,0,none⟩ (.int .u32 0) .returning _ c0 z0).mono ?_;rintro e u' w'' ⟨rfl,rfl,rfl⟩;refine leaves_cons (f:=167) (args:= #[.pointer (some ⟨g,1,none⟩)]) (by simp[settle]) (by simp[go_sem]) ?_;refine(unlock_deferred ⟨g,1,none⟩ _ _ c1 z1).mono ?_;rintro e u' w'' ⟨rfl,rfl,rfl⟩
 have hfin:∃r o',((w1.drew.setCell ⟨g,0,none⟩ (.int .u32 1)).setCell ⟨g,1,none⟩ (.int .i32 0)).heap[g]?=some (ob 1 0 r o')∧R r ((w1.drew.setCell ⟨g,0,none⟩ (.int .u32 1)).setCell ⟨g,1,none⟩ (.int .i32 0))∧gm (fun k=>k=g) w ((w1.drew.setCell ⟨g,0,none⟩ (.int .u32 1)).setCell ⟨g,1,none⟩ (.int .i32 0)):=by
  refine⟨r,o',hb7,HF.out.1 r _ _ HX.out.2.1 ?_ ?_,gm.setCell (S:=fun k=>k=g) (gm.setCell (S:=fun k=>k=g) HX.out.2.2.drew ⟨g,0,none⟩ (.inl rfl) _) ⟨g,1,none⟩ (.inl rfl) _⟩
  ·rw[Jl,Jl];rfl
  ·intro i hi;exact(vP _ g 1 _ i hi).trans (vP _ g 0 _ i hi)
 have HFI:=zM hfin;clear hfin;simp only[Leaves,settle,results,Tryz.results123];refine⟨.tuple #[],?_,rfl,HFI.out⟩;simp
theorem Zn (g:Nat)(w:World)(o:Value)(R:Value→World→Prop)(hb:w.heap[g]?=some (ob 0 0 .nilIface o))(hR:UD g R)(hf:Nk g w o R):
  Calls Tryz.prog 87 #[.pointer (some ⟨g,0,none⟩),.func (.func 88) #[.pointer (some ⟨g,0,none⟩)] #[]] w fun e W'=>e= .returned (.tuple #[])∧∃r o',W'.heap[g]?=some (ob 1 0 r o')∧R r W'∧gm (fun k=>k=g) w W':=by
 have HF:=zM (zA hb (zA hR hf));have HL:=zM (show w.cell? ⟨g,0,none⟩=some (.int .u32 0)from(aj hb 0).trans rfl);clear hb hR hf;have hnot:∀(x:Bool) (w:World),(Op.unary .not (.bool x)).run Tryz.prog w= .ok (.bool (!x)) w:=fun _ _=>rfl
 go_enter Tryz.func87,Tryz.ntmps87;go_wp2_with fail;refine(Gz _ _ HL.out).mono ?_;rintro e w' ⟨rfl,rfl⟩;go_wp2_with fail;refine(Tq g _ o R HF.out.1 HF.out.2.1 HF.out.2.2).mono ?_;rintro e w1 ⟨rfl,h⟩;have HX:=zM h;clear h;go_wp2_with fail;go_end0;exact⟨rfl,HX.out⟩
end Once
namespace Rep
def CZ (v:Value):Array Value:=(Array.replicate 256 (.slice none 0 0)).push v
theorem Q8 (A:Option Addr)(n c:Nat)(W:World):(Instr.build 258 #[(1,.slice A n c)]).run Tryz.prog W= .ok (.agg (CZ (.slice A n c))) W:=by kernel_rfl
theorem XD (W:World):(Instr.makeSlice 30 (.int .i64 0) (.int .i64 3)).run Tryz.prog W= .ok (.slice (some ⟨W.heap.size,0,none⟩) 0 3) (W.alloc (.cells #[.string ⟨#[]⟩,.string ⟨#[]⟩,.string ⟨#[]⟩] 9)):=by kernel_rfl
theorem TK (A:Option Addr)(n c:Nat):Tryz.zeroCells258.toList.set 256 (.slice A n c)=(CZ (.slice A n c)).toList:=by kernel_rfl
theorem PU:Tryz.zeroCells258.size=257:=by kernel_rfl
theorem PV (v:Value):(CZ v).size=257:=by simp[CZ]
theorem YT (v:Value):(CZ v)[256]?=some v:=by
 simp only[CZ];rw[Array.getElem?_push];simp
theorem abC (v:Value)(j:Nat)(h:j<256):(CZ v)[j]?=some (.slice none 0 0):=by
 simp only[CZ];rw[Array.getElem?_push];simp[h];omega
theorem Yj (A:Option Addr)(n c:Nat)(W:World):∃W1,(storeCells ⟨W.heap.size,0,none⟩ (Tryz.zeroCells258.toList.set 256 (.slice A n c))).run Tryz.prog (W.alloc (.cells Tryz.zeroCells258 258))= .ok () W1∧
  W1.heap[W.heap.size]?=some (.cells (CZ (.slice A n c)) 258 (0,0))∧Below W.heap.size W W1:=by
 have hb:(W.alloc (.cells Tryz.zeroCells258 258)).heap[W.heap.size]?=some (.cells Tryz.zeroCells258 258 (0,0)):=bZ W _;rw[TK];have hl:(CZ (.slice A n c)).toList.length=257:=by rw[Array.length_toList,PV]
 have hz:=PU
 have hone:∀v∈(CZ (.slice A n c)).toList,v.oneCell'=true:=by
  intro v hv;rw[Array.mem_toList_iff]at hv;simp only[CZ,Array.mem_push]at hv;rcases hv with hv|rfl
  ·rw[Array.eq_of_mem_replicate hv];rfl
  ·rfl
 have h:=run_storeCells_cells (P:=Tryz.prog) W.heap.size 0 (CZ (.slice A n c)).toList 0 (W.alloc (.cells Tryz.zeroCells258 258)) (fun j hj=>by rw[aj hb];simp;omega) (fun j _=>au hb _) hone;rw[Nat.add_zero]at h;obtain⟨vs,hvs⟩:∃vs,(CZ (.slice A n c)).toList=vs:=⟨_,rfl⟩;have hcz:CZ (.slice A n c)=vs.toArray:=by rw[←hvs]
 rw[hvs]at h hl hone⊢;obtain⟨cur',h3,h4,h5⟩:=zf vs 0 _ _ hb (by omega);refine⟨_,h,?_,?_⟩
 ·have e:cur'=CZ (.slice A n c):=by
   apply Array.toList_inj.1;rw[h5,hvs];simp only[List.take_zero,List.nil_append];rw[List.drop_of_length_le (by rw[Array.length_toList];omega),List.append_nil]
  rw[←e];exact h3
 ·obtain⟨s1,s2,s3,s4⟩:=wW W.heap.size vs 0 (W.alloc (.cells Tryz.zeroCells258 258));refine⟨s1,s2,s3,?_,fun i hi=>?_⟩
  ·rw[s4];simp
  ·exact(yZ _ _ i (by omega)).trans ((ag (Below.refl W.heap.size W) _).block i hi)
def ByB (W:World)(b:Nat)(l:List Int):Prop:=∃cs fr,W.heap[b]?=some (.cells cs 5 fr)∧∀j,j<l.length→cs[j]?=some (.int .u8 (l.getD j 0))
theorem ByB.same {W W1:World}{b:Nat}{l:List Int}(h:ByB W b l)(he:W1.heap[b]?=W.heap[b]?):ByB W1 b l:=by
 obtain⟨cs,fr,h1,h2⟩:=h;exact⟨cs,fr,he.trans h1,h2⟩
theorem ByB.lt {W:World}{b:Nat}{l:List Int}(h:ByB W b l):b<W.heap.size:=by
 obtain⟨cs,fr,h1,_⟩:=h;exact dV h1
def one (o:Nat):ByteArray:=strOfNums [(o:Int)]
structure Tb (w W:World)(p:Nat)(v:Value)(done:List Nat):Prop where
 hp:w.heap.size≤p
 below:Below w.heap.size w W
 row:Kd.string.R 9 W w.heap.size (fun _=>True) v (done.map one)
 tab:∃C:Array Value,W.heap[p]?=some (.cells C 258 (0,0))∧C.size=257∧C[256]?=some v∧(∀j,j<256→j∉done→C[j]?=some (.slice none 0 0))∧
  (∀o∈done,∃b c,C[o]?=some (.slice (some ⟨b,0,none⟩) 2 c)∧w.heap.size≤b∧ByB W b (l7 o))
theorem Tb.start {w W W1:World}(hb:Below w.heap.size w W)(t:Nat)(hrow:Kd.string.R 9 W w.heap.size (fun _=>True) (.slice (some ⟨t,0,none⟩) 0 3) [])(h1:W1.heap[W.heap.size]?=some (.cells (CZ (.slice (some ⟨t,0,none⟩) 0 3)) 258 (0,0)))(h2:Below W.heap.size W W1):
  Tb w W1 W.heap.size (.slice (some ⟨t,0,none⟩) 0 3) []:=
 ⟨hb.size,ah hb hb.size h2,Kd.dK hrow h2,_,h1,PV _,YT _,fun j hj _=>abC _ j hj,fun o ho=>absurd ho (by simp)⟩
theorem Tb.cells {w W:World}{p:Nat}{v:Value}{done:List Nat}(h:Tb w W p v done)(o:Nat)(ho:o<256)(hn:o∉done):W.cell? ⟨p,256,none⟩=some v∧W.frozen? ⟨p,256,none⟩=false∧W.cell? ⟨p,o,none⟩=some (.slice none 0 0)∧W.frozen? ⟨p,o,none⟩=false:=by
 obtain⟨C,h1,h2,h3,h4,h5⟩:=h.tab;exact⟨(aj h1 256).trans h3,au h1 256,(aj h1 o).trans (h4 o ho hn),au h1 o⟩
theorem zn {w W:World}{p:Nat}{v:Value}{done:List Nat}(h:Tb w W p v done){b:Nat}{cs:Array Value}{t:Nat}{fr:Nat×Nat}(hb:W.heap[b]?=some (.cells cs t fr))(ht:t≠9):some b≠v.ownBlock:=by
 intro he;obtain⟨cells,hc⟩:=Kd.Y8 h.row b he.symm;rw[hb]at hc;injection hc with hc;injection hc with _ hc;exact ht hc
theorem Tb.after {w W w1:World}{p:Nat}{v:Value}{done:List Nat}{o:Nat}(h:Tb w W p v done)(ho:o<256)(hn:o∉done)(o':Obj)(hg:(W.alloc o').grownBy w1 v.ownBlock)(v1:Value)(W2:World)(hW2:w1.setCell ⟨p,256,none⟩ v1=W2)(s:ByteArray):
  w1.cell? ⟨p,256,none⟩=some v∧w1.frozen? ⟨p,256,none⟩=false∧(Lib.bytesWorld W2 5 s).cell? ⟨p,o,none⟩=some (.slice none 0 0)∧(Lib.bytesWorld W2 5 s).frozen? ⟨p,o,none⟩=false:=by
 obtain⟨C,h1,h2,h3,h4,h5⟩:=h.tab;have a1:(W.alloc o').heap[p]?=some (.cells C 258 (0,0)):=fZ h1 o';have a2:w1.heap[p]?=some (.cells C 258 (0,0)):=(hg.block p (dV a1) (zn h h1 (by decide))).trans a1;have a3:W2.heap[p]?=some (.cells (C.setIfInBounds 256 v1) 258 (0,0)):=by rw[←hW2];exact aN a2 256 v1
 have a4:(Lib.bytesWorld W2 5 s).heap[p]?=some (.cells (C.setIfInBounds 256 v1) 258 (0,0)):=(Lib.bytesWorld_at_old W2 5 s p (dV a3)).trans a3;refine⟨(aj a2 256).trans h3,au a2 256,(aj a4 o).trans ?_,au a4 o⟩;rw[Array.getElem?_setIfInBounds_ne (by omega)];exact h4 o ho hn
theorem Tb.round {w W w1:World}{p:Nat}{v v1:Value}{done:List Nat}{o:Nat}(h:Tb w W p v done)(ho:o<256)(hn:o∉done)(o':Obj)(hR:Kd.string.R 9 w1 w.heap.size (fun _=>True) v1 (done.map one++[one o]))(hb:Below w.heap.size w w1)(hg:(W.alloc o').grownBy w1 v.ownBlock)
  (s:ByteArray) (hs:bytesOf s=l7 o) (W2:World) (hW2:w1.setCell ⟨p,256,none⟩ v1=W2) (c:Nat):Tb w ((Lib.bytesWorld W2 5 s).setCell ⟨p,o,none⟩ (.slice (some ⟨W2.heap.size,0,none⟩) 2 c)) p v1 (done++[o]):=by
 obtain⟨C,h1,h2,h3,h4,h5⟩:=h.tab;have hp:=h.hp;have a1:(W.alloc o').heap[p]?=some (.cells C 258 (0,0)):=fZ h1 o';have a2:w1.heap[p]?=some (.cells C 258 (0,0)):=(hg.block p (dV a1) (zn h h1 (by decide))).trans a1;have a3:W2.heap[p]?=some (.cells (C.setIfInBounds 256 v1) 258 (0,0)):=by rw[←hW2];exact aN a2 256 v1
 have hsz:W2.heap.size=w1.heap.size:=by rw[←hW2];simp
 have hlt:p<W2.heap.size:=dV a3;have a4:(Lib.bytesWorld W2 5 s).heap[p]?=some (.cells (C.setIfInBounds 256 v1) 258 (0,0)):=(Lib.bytesWorld_at_old W2 5 s p hlt).trans a3;have a5:=aN a4 o (.slice (some ⟨W2.heap.size,0,none⟩) 2 c);have hBW:Below w.heap.size w W2:=by rw[←hW2];exact Below.setCell (p:=⟨p,256,none⟩) hb hp _
 have hBb:Below w.heap.size w (Lib.bytesWorld W2 5 s):=lK hBW hBW.size 5 s;have hgp:w1.heap.size≤W2.heap.size:=by omega
 have hold:∀b,b<W.heap.size→some b≠v.ownBlock→b≠p→((Lib.bytesWorld W2 5 s).setCell ⟨p,o,none⟩ (.slice (some ⟨W2.heap.size,0,none⟩) 2 c)).heap[b]?=W.heap[b]?:=by
  intro b hbl hbv hbp;have e1:=Below.heap_setCell (Lib.bytesWorld W2 5 s) ⟨p,o,none⟩ (.slice (some ⟨W2.heap.size,0,none⟩) 2 c) b hbp;have e4:(W.alloc o').heap[b]?=W.heap[b]?:=Below.heap_alloc W o' b hbl;have ah4:b<(W.alloc o').heap.size:=by simp;omega
  have e3:w1.heap[b]?=(W.alloc o').heap[b]?:=hg.block b ah4 hbv;have e2:W2.heap[b]?=w1.heap[b]?:=by rw[←hW2];exact Below.heap_setCell w1 ⟨p,256,none⟩ v1 b hbp
  have hb1:b<w1.heap.size:=Nat.lt_of_lt_of_le ah4 hg.size;exact e1.trans ((Lib.bytesWorld_at_old W2 5 s b (by omega)).trans (e2.trans (e3.trans e4)))
 refine⟨hp,Below.setCell (p:=⟨p,o,none⟩) hBb hp _,?_,_,a5,?_,?_,?_,?_⟩
 ·rw[List.map_append,List.map_singleton];have r1:Kd.string.R 9 W2 w.heap.size (fun _=>True) v1 (done.map one++[one o]):=by rw[←hW2];exact Kd.Dy hR a2 (by simp[Kd.string,Kd.scalar]) 256 v1
  have hbo:Below W2.heap.size W2 (Lib.bytesWorld W2 5 s):=lK (Below.refl _ _) (Nat.le_refl _) 5 s;exact Kd.Dy (Kd.dK r1 hbo) a4 (by simp[Kd.string,Kd.scalar]) o _
 ·simp[h2]
 ·rw[Array.getElem?_setIfInBounds_ne (by omega)];rw[Array.getElem?_setIfInBounds_self_of_lt (by omega)]
 ·intro j hj hjn;simp only[List.mem_append,List.mem_singleton,not_or]at hjn;rw[Array.getElem?_setIfInBounds_ne (by omega),Array.getElem?_setIfInBounds_ne (by omega)];exact h4 j hj hjn.1
 ·intro q hq;rcases List.mem_append.1 hq with hq|hq
  ·obtain⟨b,c',e1,e2,e3⟩:=h5 q hq
   have apv:q≠256:=fun e=>by
    subst e;rw[h3]at e1;exact absurd (Option.some.inj e1) (fun e=>zn h e3.choose_spec.choose_spec.1 (by decide) (by rw[e];rfl))
   have hqo:q≠o:=fun e=>hn (e▸hq)
   refine⟨b,c',?_,e2,e3.same (hold b e3.lt (zn h e3.choose_spec.choose_spec.1 (by decide)) ?_)⟩
   ·rw[Array.getElem?_setIfInBounds_ne (by omega),Array.getElem?_setIfInBounds_ne (by omega)];exact e1
   ·intro e;obtain⟨cs,fr,hcs,_⟩:=e3;rw[e,h1]at hcs;injection hcs with hcs;injection hcs with _ hcs;exact absurd hcs (by decide)
  ·obtain rfl:=List.mem_singleton.1 hq;refine⟨W2.heap.size,c,?_,hBW.size,?_⟩
   ·rw[Array.getElem?_setIfInBounds_self_of_lt (by simp;omega)]
   ·have hnew:=Lib.bytesWorld_at_new W2 5 s;refine⟨_,_,(Below.heap_setCell (Lib.bytesWorld W2 5 s) ⟨p,q,none⟩ _ W2.heap.size (by simp;omega)).trans hnew,fun j hj=>?_⟩;rw[←hs];have hjs:j<s.size:=by rw[←bytesOf_length,hs];exact hj
    have hjl:j<s.data.toList.length:=by rw[bV];exact hjs
    simp[Lib.bytesCells,Array.getElem?_append,bytesOf,List.getD_eq_getElem?_getD];simp at hjl;simp[hjl]
end Rep
end Go.Proofs.YthbdjmopolpjmaaGreatDoor.C
