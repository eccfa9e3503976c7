/- The law cubitlaw29.BookBack answers true for every list of entries and every text. Conditions: what it reads is of bulk at most 1048576; the listed variables hold what their initialisers lay. -/
import Derived.Test.YthbdjmopolpjmaaGreatDoorK19
set_option linter.unusedVariables false
set_option linter.unusedSimpArgs false
set_option maxHeartbeats 8000000
set_option maxRecDepth 100000
namespace Go.Proofs.YthbdjmopolpjmaaGreatDoor.C
open Go.RowKit Go.Proofs.YthbdjmopolpjmaaGreatDoorW.PrintWords Go.Proofs.YthbdjmopolpjmaaGreatDoorW.PrintLast Go.Proofs.YthbdjmopolpjmaaGreatDoorW.PrintMore Go.Proofs.YthbdjmopolpjmaaGreatDoor.F Go.Proofs.YthbdjmopolpjmaaGreatDoor.M
attribute [local go_sem] max2_int min2_int max_two min_two max_three min_three max_four min_four
def JH (w:World):Prop:=∃m,w.cell? ⟨2,0,none⟩=some (.int .i64 m)
theorem JH.below {w w1:World}(h:JH w)(hb:Below w.heap.size w w1):JH w1:=by
 obtain⟨m,h⟩:=h;exact⟨m,cell_later hb h⟩
def oN (s:ByteArray)(w:World)(e:Ending)(w':World):Prop:=∃v er pos l,e= .returned (.tuple #[v,.int .i64 er,.int .i64 pos])∧oP s er pos l∧Kd.S EP 41 w' w.heap.size (fun _=>True) v l∧Below w.heap.size w w'
theorem oN.of {s:ByteArray}{w w':World}{e:Ending}(v:Value)(er pos:Int)(l:List iU)(he:e= .returned (.tuple #[v,.int .i64 er,.int .i64 pos]))(ha:oP s er pos l)(hr:Kd.S EP 41 w' w.heap.size (fun _=>True) v l)(hb:Below w.heap.size w w'):oN s w e w':=⟨v,er,pos,l,he,ha,hr,hb⟩
theorem N8 (s:ByteArray)(w:World)(hs:s.size≤65536)(hm:JH w)(h0:s.size≠0):
  Calls Tryz.prog 37 #[.string s,.string ⟨#[10]⟩] w fun e w'=>∃t r b n,e= .returned (.tuple #[.string t,.string r,.bool b])∧w'=w.drewN n∧((b=false∧eF 10 s=[t]∧t.size≠0)∨(b=true∧eF 10 s=t::eF 10 r∧r.size≤65536)):=by
 obtain⟨m,hm⟩:=hm;refine(Tryz.strings_Cut s ⟨#[10]⟩ m w (by omega) hm).mono fun e w' ⟨h1,n,h2⟩=>?_
 have hd:=bV s;rcases Ve 10 s with⟨_,hc,hp⟩|⟨p,r,hc,hl,_,hp⟩
 ·have hc':Lib.cut s.data.toList (⟨#[10]⟩:ByteArray).data.toList=(s.data.toList,[],false):=hc;rw[hc']at h1;exact⟨⟨s.data.toList.toArray⟩,_,false,n,h1,h2,.inl ⟨rfl,hp,h0⟩⟩
 ·have hc':Lib.cut s.data.toList (⟨#[10]⟩:ByteArray).data.toList=(p,r,true):=hc;rw[hc']at h1;refine⟨_,_,true,n,h1,h2,.inr ⟨rfl,hp,?_⟩⟩;rw[←bV];rw[hl,List.length_append,List.length_cons]at hd
  show r.toArray.toList.length≤_
  rw[List.toList_toArray];omega
theorem MB (t:ByteArray)(w:World)(ht:t.size≤65536)(hm:JH w):
  Calls Tryz.prog 39 #[.string t,.string ⟨#[9]⟩] w fun e w'=>∃g,e= .returned (.slice (some ⟨g,0,none⟩) (eF 9 t).length (eF 9 t).length)∧Kd.string.C w' (some ⟨g,0,none⟩) (eF 9 t).length (eF 9 t)∧Below w.heap.size w w':=by
 obtain⟨m,hm⟩:=hm;refine(Tryz.strings_Split t ⟨#[9]⟩ m w (by omega) hm (by decide)).mono fun e w' ⟨h1,h2⟩=>?_
 obtain⟨e1,e2⟩:=Tt 9 t;have hpl:=kZ 9 t;have hpc:Lib.countByte t.data.toList 9≤t.size:=by rw[←bV];exact List.count_le_length
 rw[e2]at h1;rw[e1]at h2;have ho:=xM (enc:=Value.string) w w.heap.size 9 (eF 9 t) (Nat.le_refl _) (by omega)
 have hR:Kd.string.R 9 w' w.heap.size (fun _=>True) (.slice (some ⟨w.heap.size,0,none⟩) (eF 9 t).length (eF 9 t).length) (eF 9 t):=by
  rw[h2];exact Kd.iR ho (fun _ _=>trivial)
 exact⟨w.heap.size,h1,(Kd.dA hR).2.2,by rw[h2];exact ag (Below.refl _ _) _⟩
theorem wJ (s:ByteArray)(w:World)(hg:BI w)(hm:JH w):
  Calls Tryz.prog 15 #[.string s] w fun e w'=>oN s w e w':=by
 obtain⟨b,hgb⟩:=hg.1;have HG:=zM (zA hg (zA hm hgb));have hnn:0<w.heap.size:=by have:=World.block_lt_of_cell? _ _ hgb;exact this
 clear hg hm hgb
 by_cases hbig:65536<s.size
 ·have q1:decide (65536<(s.size:Int))=true:=decide_eq_true (by omega);have q2:=zT hbig;have HQ:=zM hbig;clear hbig hnn;go_enter Tryz.func15,Tryz.ntmps15;go_wp2_with fail;go_ret3;exact oN.of (.slice none 0 0) 4 0 [] rfl (.inl ⟨.inl HQ.out,rfl,rfl,rfl⟩) (Kd.tH _ _ _ _ _) (Below.refl _ _)
 ·have q1:decide (65536<(s.size:Int))=false:=decide_eq_false (by omega);have q2:=zF hbig;have HQ:=zM (show s.size≤65536 by omega);clear hbig hnn;have hpos:=xO 10 s;have hS:=qC 10 s;have hpl:=kZ 10 s;have HS0:=zM (show eF 10 s=eF 10 s from rfl);obtain⟨ps,hps⟩:∃ps,eF 10 s=ps:=⟨_,rfl⟩;rw[hps]at hpos hS hpl;have yg:=zM hps;have YJ:=zM (show∀i,i<ps.length→(pt ps i).size≤65536 from fun i hi=>Nat.le_trans (hS _ (xP hi)) HQ.out);obtain⟨N,hN⟩:∃N,ps.length=N:=⟨_,rfl⟩;obtain⟨cn,hcn⟩:∃cn,Lib.countByte s.data.toList 10=cn:=⟨_,rfl⟩;rw[hN,hcn]at hpl;have HN:=zM (zA hN (zA hpl hpos));have HCT:=zM (show∀W,Calls Tryz.prog 36 #[.string s,.string ⟨#[10]⟩] W fun e w'=>e= .returned (.int .i64 (cn:Int))∧w'=W from fun W=>by rw[←hcn];exact Tryz.strings_Count_one s 10 W);clear hps hS hcn
  by_cases hm:4096<cn
  ·have m1:=zT hm;have m2:decide (4096<(cn:Int))=true:=decide_eq_true (by omega);have HM:=zM (show 4097<ps.length by omega);clear hm hN hpl hpos;go_enter Tryz.func15,Tryz.ntmps15;go_wp2_with fail;refine(HCT.out _).mono ?_;rintro e w1 ⟨rfl,rfl⟩;go_wp2_with fail;go_ret3;exact oN.of (.slice none 0 0) 4 0 [] rfl (.inl ⟨.inr (by rw[yg.out];exact HM.out),rfl,rfl,rfl⟩) (Kd.tH _ _ _ _ _) (Below.refl _ _)
  ·have m1:=zF hm;have m2:decide (4096<(cn:Int))=false:=decide_eq_false (by omega);have HM:=zM (show ps.length≤4097 by omega);clear hm hN hpl hpos;go_enter Tryz.func15,Tryz.ntmps15;go_wp2_with fail;refine(HCT.out _).mono ?_;rintro e w1 ⟨rfl,rfl⟩;obtain⟨wa,hwa⟩:∃wa,wa=w1:=⟨_,rfl⟩;subst hwa;go_wp2_with fail;go_loopg [0,5,6] N (fun kq v0 v5 v6 W=>∃(i:Nat) (si:ByteArray) (done:List iU),v0= .string si∧v6= .int .i64 (i:Int)∧Aside0 (i<N∧N≤i+kq∧done.length=i∧Kd.S EP 41 W wa.heap.size (fun _=>True) v5 done∧Told ps i done∧Below wa.heap.size wa W∧eF 10 si=ps.drop i∧si.size≤65536))
   case atStart=>exact⟨0,s,[],rfl,rfl,⟨by have:=HN.out.1;have:=HN.out.2.2;omega,by omega,rfl,Kd.tH _ _ _ _ _,MN ps,Below.refl _ _,by rw[yg.out];rfl,HQ.out⟩⟩
   case round=>
    obtain⟨i,si,done,rfl,rfl,HJ⟩:=hrel;have Y1:=zM (show i<ps.length by have:=HJ.out.1;have:=HN.out.1;omega);obtain⟨be,b1,b2,b3⟩:=J9 si;have HBE:=zM b3;clear b3;cases be with
    |true=>
     have hz:si.size=0:=HBE.out.1 rfl
     have hsi:eF 10 si=[si]:=by
      rcases Ve 10 si with⟨_,_,h⟩|⟨p,r,_,hl,_,_⟩
      ·exact h
      ·have:=bV si;rw[hl,List.length_append,List.length_cons]at this;omega
     have hd:=HJ.out.2.2.2.2.2.2.1;rw[hsi]at hd;have hlen:=congrArg List.length hd;rw[List.length_singleton,List.length_drop]at hlen;have hi1:i+1=ps.length:=by have:=Y1.out;omega
     have hpt:pt ps i=si:=by
      rw[drop_one hi1]at hd;exact(List.singleton_inj.1 hd).symm
     have ajS:=zM (MM HJ.out.2.2.2.2.1 hi1 (by rw[hpt];exact hz));clear hz hsi hd hlen hi1 hpt;go_wp2_with fail;go_ret3;exact oN.of _ 0 0 done rfl (.inr ⟨HQ.out,by rw[yg.out];exact HM.out,done,by rw[yg.out];exact ajS.out,(if_pos rfl).symm⟩) HJ.out.2.2.2.1 HJ.out.2.2.2.2.2.1
    |false=>
     have HZ:=zM (show si.size≠0 from fun h=>by have:=HBE.out.2 h;cases this);go_wp2_with fail;refine(N8 si _ HJ.out.2.2.2.2.2.2.2 (HG.out.2.1.below HJ.out.2.2.2.2.2.1) HZ.out).mono ?_;rintro e w2 ⟨t,r,ended,n,rfl,rfl,hc⟩
     have hpt:pt ps i=t:=by
      have hd:=HJ.out.2.2.2.2.2.2.1;have h1:ps.drop i=pt ps i::ps.drop (i+1):=by rw[List.drop_eq_getElem_cons Y1.out,uJ Y1.out]
      rw[h1]at hd;rcases hc with⟨_,h,_⟩|⟨_,h,_⟩
      ·rw[h]at hd;injection hd with h2 _;exact h2.symm
      ·rw[h]at hd;injection hd with h2 _;exact h2.symm
     have Ns:=zM (zA hc (zA hpt (show t.size≤65536 by rw[←hpt];exact YJ.out i Y1.out)));have HB2:=zM (show Below wa.heap.size wa (wr.drewN n)from ai HJ.out.2.2.2.2.2.1 n);clear hc hpt;go_wp2_with fail;refine(MB t _ Ns.out.2.2 (HG.out.2.1.below HB2.out)).mono ?_;rintro e w3 ⟨g,rfl,hC,hb⟩;have HB3:=zM (ah HB2.out HB2.out.size hb);have QT:=zM hC;have Y0:=zM (ah (ai (Below.refl wr.heap.size wr) n) (ai (Below.refl wr.heap.size wr) n).size hb);have am0:=kZ 9 t;have alY:Lib.countByte t.data.toList 9≤t.size:=by rw[←bV];exact List.count_le_length
     have HP9:=zM (show(eF 9 t).length≤65537 by have:=Ns.out.2.2;omega);clear hC hb am0 alY;go_wp2_with fail;refine(Sj (some ⟨g,0,none⟩) (eF 9 t).length (eF 9 t) b _ QT.out (Nat.le_refl _) HP9.out (fun x hx=>Nat.le_trans (qC 9 t x hx) Ns.out.2.2) (cell_later HB3.out HG.out.2.2)).mono ?_;rintro e w4 ⟨x,A8,c8,er,rfl,hx,hR,hb4⟩;unfold EW;have HX:=zM hx;have aeP:=zM (ah Y0.out Y0.out.size hb4);have HB4:=zM (ah HB3.out HB3.out.size hb4);obtain⟨w5,hw5⟩:∃w5,w4.alloc (.cells #[.int .i64 x.f0,.string x.f1,.string x.f2.f0,.string x.f2.f1,.string x.f3.f0,.string x.f3.f1,.string x.f4,.int .i64 x.f5,.slice A8 x.f6.length c8,.int .i64 x.f7,.bool x.f8] 41)=w5:=⟨_,rfl⟩;obtain⟨xb,hxb⟩:∃xb,w4.heap.size=xb:=⟨_,rfl⟩;have Zz:w5.heap[xb]?=some (.cells #[.int .i64 x.f0,.string x.f1,.string x.f2.f0,.string x.f2.f1,.string x.f3.f0,.string x.f3.f1,.string x.f4,.int .i64 x.f5,.slice A8 x.f6.length c8,.int .i64 x.f7,.bool x.f8] 41 (0,0)):=by rw[←hw5,←hxb];exact bZ w4 _
     have hb5:Below w4.heap.size w4 w5:=by rw[←hw5];exact ag (Below.refl _ _) _
     have uf:=zM (ah HB4.out HB4.out.size hb5);have ajM:=zM (ah aeP.out aeP.out.size hb5);have BO:=zM (Kd.gI (Kd.dK (Kd.jS hR) hb5) (fun k hk=>(show wr.heap.size≤k from Nat.le_trans Y0.out.size hk.2.1)));have hg5:=cell_later uf.out HG.out.2.2;clear hx hR hb4 hb5;cases ended with
     |false=>
      have hc:=Ns.out.1;have hd:=HJ.out.2.2.2.2.2.2.1
      have hi1:i+1=ps.length∧t.size≠0:=by
       rcases hc with⟨_,h,h2⟩|⟨h,_⟩
       ·rw[h]at hd;have hlen:=congrArg List.length hd;rw[List.length_singleton,List.length_drop]at hlen;exact⟨by have:=Y1.out;omega,h2⟩
       ·cases h
      have HI1:=zM hi1;clear hc hd hi1 Zz;obtain⟨ev,hev⟩:∃ev,Kq b er=ev:=⟨_,rfl⟩;rw[hev];clear hev;go_wp2_with fail;refine(wY b (i:Int) _ (HG.out.1.below uf.out) hg5).mono ?_;rintro e w6 ⟨rfl,hb⟩;have yu:=zM (ah uf.out uf.out.size hb);clear hb;go_wp2_with fail;go_ret3;obtain⟨l,hp⟩:=G8 HJ.out.2.2.2.2.1 HI1.out.1 (by rw[Ns.out.2.1];exact HI1.out.2);exact oN.of (.slice none 0 0) 170 (i:Int) [] rfl (.inr ⟨HQ.out,by rw[yg.out];exact HM.out,l,by rw[yg.out];exact hp,(if_neg (by decide)).symm⟩) (Kd.tH _ _ _ _ _) yu.out
     |true=>
      have hc:=Ns.out.1;have hd:=HJ.out.2.2.2.2.2.2.1
      have hi1:i+1<ps.length∧eF 10 r=ps.drop (i+1)∧r.size≤65536:=by
       rcases hc with⟨h,_⟩|⟨_,h,h2⟩
       ·cases h
       ·have h1:ps.drop i=pt ps i::ps.drop (i+1):=by rw[List.drop_eq_getElem_cons Y1.out,uJ Y1.out]
        rw[h,h1]at hd;injection hd with _ hd;have hp:=xO 10 r;rw[hd,List.length_drop]at hp;exact⟨by omega,hd,h2⟩
      have HI1:=zM hi1;have HXP:=zM (show oO (eF 9 (pt ps i)) er x by rw[Ns.out.2.1];exact HX.out);clear hc hd hi1
      by_cases he:er=0
      ·subst he;rw[show Kq b 0=Value.nilIface from by unfold Kq yH;rw[if_neg (by decide),if_pos rfl]];obtain⟨vk,vw,vz,vC,vF,vG,vH,Bh,Bi,Bj,nR⟩:=eleven Zz;have abS:=zM (Kd.Ii (Kd.ag0 HJ.out.2.2.2.1 ajM.out) (fun k hk=>(show True∧¬wr.heap.size≤k from⟨trivial,by have:=hk.2;omega⟩)));have HOWN:=zM (Kd.akn HJ.out.2.2.2.1);obtain⟨k1,rfl⟩:∃k1,gk=k1+1:=⟨gk- 1,by have:=HJ.out.2.1;have:=HJ.out.1;omega⟩;clear Zz hg5;go_wp2_with (first|((with_reducible refine bK (b:= .append) (xs:= #[.tmp 53,.tmp 55]) rfl ?_);at_builtin;refine Kd.UC EP (w0:=wa) wa.heap.size rfl (.tmp 53) (.tmp 55) 22 41 (.agg #[(.int .i64 0),(.string ⟨#[]⟩),(.string ⟨#[]⟩),(.string ⟨#[]⟩),(.string ⟨#[]⟩),(.string ⟨#[]⟩),(.string ⟨#[]⟩),(.int .i64 0),(.slice none 0 0),(.int .i64 0),(.bool false)]) 152 rfl Tryz.underlying22 Xp rfl (by decide) (by omega) u5 done x [.int .i64 x.f0,.string x.f1,.string x.f2.f0,.string x.f2.f1,.string x.f3.f0,.string x.f3.f1,.string x.f4,.int .i64 x.f5,(.slice A8 x.f6.length c8),.int .i64 x.f7,.bool x.f8] (fun _=>True) (fun k=>wr.heap.size≤k) rfl rfl ?aP ?aK ?aF ?aO ?aB ?aS ?aL ?_;(case aP=>exact Qx _ _ _ x (Kd.iV BO.out (Nat.le_trans HJ.out.2.2.2.2.2.1.size Y0.out.size)));(case aK=>exact(fun k hk=>⟨trivial,fun he=>by have h6:=HOWN.out k he.symm;omega⟩));(case aF=>exact(fun _ _=>trivial));(case aO=>exact abS.out);(case aB=>exact uf.out);(case aS=>exact uf.out.size);(case aL=>(have h1:=HJ.out.2.2.1;have h2:=Y1.out;have h3:=HM.out;omega));intro v9 w6 ho hb hg hat;have HN9:=zM (zA ho hb);clear ho hb hg hat));go_roundg k1
       case measure=>omega
       case rel=>exact⟨i+1,r,done++[x],rfl,congrArg (Value.int .i64) (fD (by omega) (by have:=Y1.out;have:=HM.out;omega)),⟨by have:=HI1.out.1;have:=HN.out.1;omega,by have:=HJ.out.2.1;omega,by have:=HJ.out.2.2.1;rw[List.length_append,List.length_singleton];omega,HN9.out.1,G7 HJ.out.2.2.2.2.1 HI1.out.1 HXP.out,HN9.out.2,HI1.out.2.1,HI1.out.2.2⟩⟩
      ·have HE:=zM he
       by_cases h7:er=170
       ·subst h7;rw[show Kq b 170= .iface 347 (.pointer (some b))from if_pos rfl];clear he Zz;go_wp2_with fail;refine(wY b (i:Int) _ (HG.out.1.below uf.out) hg5).mono ?_;rintro e w6 ⟨rfl,hb⟩;have yu:=zM (ah uf.out uf.out.size hb);clear hb;go_wp2_with fail;go_ret3;obtain⟨l,hp⟩:=EJ HJ.out.2.2.2.2.1 HI1.out.1 HXP.out HE.out;exact oN.of (.slice none 0 0) 170 (i:Int) [] rfl (.inr ⟨HQ.out,by rw[yg.out];exact HM.out,l,by rw[yg.out];exact hp,(if_neg (by decide)).symm⟩) (Kd.tH _ _ _ _ _) yu.out
       ·rw[zS he h7];clear he h7 Zz hg5;go_wp2_with fail;refine(G6 er (i:Int) _ (HG.out.1.below uf.out)).mono ?_;rintro e w6 ⟨rfl,hb⟩;have yu:=zM (ah uf.out uf.out.size hb);clear hb;go_wp2_with fail;go_ret3;obtain⟨l,hp⟩:=EJ HJ.out.2.2.2.2.1 HI1.out.1 HXP.out HE.out;exact oN.of (.slice none 0 0) er (i:Int) [] rfl (.inr ⟨HQ.out,by rw[yg.out];exact HM.out,l,by rw[yg.out];exact hp,(if_neg HE.out).symm⟩) (Kd.tH _ _ _ _ _) yu.out
theorem text_size {s:ByteArray}{er pos:Int}{l:List iU}(h:oP s er pos l)(he:er=0):l.length≤4096∧(∀x∈l,Small x)∧prt l=(s,0,0):=by
 subst he;have:=agG h;exact⟨this.2.1,this.2.2,this.1⟩
theorem abV (A:Option Addr)(c:Nat)(l:List iU)(s:ByteArray)(w:World)(hi:In A c l w)(hg:BI w)(hp:Pow w)(hm:JH w):Calls Tryz.prog 5 #[.slice A l.length c,.string s] w fun e w'=>e= .returned (.bool true)∧Below w.heap.size w w':=by
 have HI:=zM hi;have HG:=zM (zA hg (zA hp hm));have HC:=zM (fun h=>agA (l:=l) h);clear hi hg hp hm;go_enter Tryz.func5,Tryz.ntmps5;go_wp2_with fail;refine(DF A c l _ HI.out.reads HI.out.cap HI.out.len HI.out.small HG.out.1 HG.out.2.1).mono ?_;rintro e w1 ⟨rfl,hb⟩;have HW:=zM hb;clear hb;unfold O1;obtain⟨pt,hpt⟩:∃pt,(prt l).1=pt:=⟨_,rfl⟩;obtain⟨pe,hpe⟩:∃pe,(prt l).2.1=pe:=⟨_,rfl⟩;obtain⟨pk,hpk⟩:∃pk,(prt l).2.2=pk:=⟨_,rfl⟩;rw[hpt,hpe,hpk];have HP:=zM (zA hpt (zA hpe hpk));clear hpt hpe hpk
 by_cases he:pe=0
 subst he;have HT:=zM (HC.out HP.out.2.1).1;rw[HP.out.1]at HT;go_wp2_with fail;refine(wJ pt _ (HG.out.1.below HW.out) (HG.out.2.2.below HW.out)).mono ?_;rintro e w2 ⟨v2,er,pos,l2,rfl,ha,hS,hb⟩;obtain⟨rfl,rfl,rfl⟩:=BF HT.out ha;obtain⟨A2,c2,e2⟩:=Kd.Ij hS;subst e2;have H2:=zM (zA hS (ah HW.out HW.out.size hb));have HF:=zM (fun x hx=>Jm ((HC.out HP.out.2.1).2 x hx));clear HW ha hS hb HT;go_wp2_with fail;have hr2:=Kd.dA (Kd.S_R H2.out.1);refine(GX A2 A c2 c l _ hr2.2.2 hr2.2.1 (Kd.ji HI.out.reads H2.out.2) HI.out.cap HI.out.len (fun x hx=>by have:=HF.out x hx;omega)).mono ?_;rintro e w3 ⟨rfl,hb⟩;have HW:=zM (ah H2.out.2 H2.out.2.size hb);clear hb hr2 H2 HF;go_wp2_with fail;rotate_left;have hne:(pe==0)=false:=beq_eq_false_iff_ne.mpr he;clear he;go_wp2_with fail
 all_goals
  refine(abJ A c l _ (Kd.ji HI.out.reads HW.out) HI.out.cap HI.out.len HI.out.small (HG.out.2.1.below HW.out)).mono ?_;rintro e w4 ⟨rfl,hb⟩;have HX:=zM (ah HW.out HW.out.size hb);clear hb HW;unfold O1;rw[HP.out.1,HP.out.2.1,HP.out.2.2];go_wp2_with fail;refine(wJ s _ (HG.out.1.below HX.out) (HG.out.2.2.below HX.out)).mono ?_;rintro e w5 ⟨v5,er5,asN,l5,rfl,ha,hS,hb⟩;have H5:=zM (zA ha (zA hS (ah HX.out HX.out.size hb)));clear ha hS hb HX
  by_cases he5:er5=0
  have HT:=zM (text_size H5.out.1 he5);obtain⟨A5,c5,e5⟩:=Kd.Ij H5.out.2.1;subst he5 e5;go_wp2_with fail;have hr5:=Kd.dA (Kd.S_R H5.out.2.1);refine(DF A5 c5 l5 _ hr5.2.2 hr5.2.1 (by have:=HT.out.1;omega) HT.out.2.1 (HG.out.1.below H5.out.2.2) (HG.out.2.1.below H5.out.2.2)).mono ?_;rintro e w6 ⟨rfl,hb⟩;have HW:=zM (ah H5.out.2.2 H5.out.2.2.size hb);clear hb hr5;unfold O1;rw[HT.out.2.2];clear HT H5;go_wp2_with fail;rotate_left;have hne5:(er5==0)=false:=beq_eq_false_iff_ne.mpr he5;have HW:=zM H5.out.2.2;clear he5 H5;go_wp2_with fail
  all_goals
   refine(Ox _ (HG.out.1.below HW.out) (HG.out.2.1.below HW.out)).mono ?_;rintro e w7 ⟨rfl,hb⟩;have H7:=zM (ah HW.out HW.out.size hb);clear hb HW;go_wp2_with fail;go_ret;exact⟨rfl,H7.out⟩
end Go.Proofs.YthbdjmopolpjmaaGreatDoor.C
namespace Go.Proofs.YthbdjmopolpjmaaGreatDoor.C
open Go.RowKit
def qi:List (String×DataW Unit):=[("math/bits.deBruijn32tab",Rows.laid_math_bits_deBruijn32tab),("math/bits.deBruijn64tab",Rows.laid_math_bits_deBruijn64tab),("internal/strconv.uint64pow10",Rows.laid_internal_strconv_uint64pow10),("unicode/utf8.acceptRanges",Rows.laid_unicode_utf8_acceptRanges),("cubit/book.errLine",Rows.laid_cubit_book_errLine),("unicode/utf8.first",Rows.laid_unicode_utf8_first)]
theorem aaG {W:World}(h:laidMetH Tryz.prog Rows.bookBackUptoRow.laid W):laidMet Tryz.prog qi W∧handlesMet Tryz.prog Oj W:=h
theorem agJ {W:World}(h:laidMet Tryz.prog qi W):Pow W:=
 Lib.tabIs_of_head (k:= .u64) (zs:=Lib.pow10Tab) al5 VU Tryz.underlying271 Tryz.underlying162 U2 U3 h.tail.tail
theorem aeX {W:World}(h:laidMetH Tryz.prog Rows.bookBackUptoRow.laid W):BI W:=by
 obtain⟨hp,hh⟩:=aaG h;refine⟨?_,?_⟩
 ·obtain⟨a,s,hv,_⟩:=laid_sentinel hp.tail.tail.tail.tail ab6 RH Tryz.underlying44 ae2 Tryz.underlying347 Tryz.underlying349 rfl rfl Tryz.underlying9 U4 Zg;exact⟨a,by simpa using World.var?_cell ab6 hv 0⟩
 ·obtain⟨name,u,ty,e1,e2,e3,e4,e5⟩:=hh _ (List.mem_singleton.2 rfl);have en:name=[101,114,114,111,114]:=(Option.some.inj e1).symm;subst en;obtain rfl:=Option.some.inj (rtype.symm.trans e2);have hm:ty∈(List.range 390).filter fun t=>Tryz.prog.rowNamed t [101,114,114,111,114]:=List.mem_filter.2 ⟨List.mem_range.2 (by rw[←TA];exact e3),e4⟩
  rw[oneRow]at hm;obtain rfl:=List.mem_singleton.1 hm;rw[V7]at e5;simpa using World.var?_cell al4 e5 0
theorem agI {W:World}(h:W.ShapedOpen Tryz.prog):JH W:=
 cell_of_shapedOpen_int (P:=Tryz.prog) (g:=2) (t:=3) (zero:= #[.int .i64 0]) h (of_decide_eq_true (by kernel_rfl)) (by kernel_rfl) rfl (by kernel_rfl) (by kernel_rfl) Tryz.underlying3
noncomputable def aaA (os:Os):World:=
 {World.laidAll Tryz.prog os qi with heap:=(World.laidAll Tryz.prog os qi).heap.modify 1 fun
   | .cells _ t frozen=> .cells #[.iface 182 (.agg #[.pointer (some ⟨10,44,none⟩)])] t frozen
   |o=>o}
theorem ad7 (os:Os):(aaA os).os=os:=by
 unfold aaA;simp only[World.laidAll_os]
theorem aba:(Rows.bookBackUptoRow.laid.filter fun x=>x.2.handleName?.isNone)=qi:=by kernel_rfl
noncomputable def aaM (os:Os)(args:Array Value):World:=((aaA os).forCall (fun _ _=>0) ⟨#[],args,[]⟩).memory
theorem ad6 (os:Os)(args:Array Value):(DataW.laidRun Tryz.prog (aaM os args) 8 (qi.map (·.1))).map (·.1)=some qi:=by kernel_rfl
theorem abR (os:Os)(args:Array Value):(DataW.laidRun Tryz.prog (aaM os args) 8 (qi.map (·.1))).map (fun x=>nodupB (x.2.map MemPlace.codeOf))=some true:=by kernel_rfl
theorem ad5 (os:Os)(args:Array Value):(DataW.laidRun Tryz.prog (aaM os args) 8 (qi.map (·.1))).map (fun x=>laidRowsB Tryz.prog (aaM os args) x.2)=some true:=by kernel_rfl
theorem abT (os:Os)(args:Array Value):laidMetH Tryz.prog Rows.bookBackUptoRow.laid ((aaA os).forCall (fun _ _=>0) ⟨#[],args,[]⟩).memory:=
 laidMetH_of_parts (by rw[aba];exact laidMet_of_run3 8 (ad6 os args) (abR os args) (ad5 os args)) (by kernel_rfl)
theorem abr (os:Os)(args:Array Value):((aaA os).forCall (fun _ _=>0) ⟨#[],args,[]⟩).variablesRefB Tryz.checked.prog=true:=by kernel_rfl
theorem ab7 (os:Os)(args:Array Value):(((aaA os).forCall (fun _ _=>0) ⟨#[],args,[]⟩).heap.toList.drop Tryz.checked.prog.globals.size).take ((begin Tryz.checked.prog (fun _ _=>0) default).world.heap.size- Tryz.checked.prog.globals.size)=
   (begin Tryz.checked.prog (fun _ _=>0) default).world.heap.toList.drop Tryz.checked.prog.globals.size:=by kernel_rfl
end Go.Proofs.YthbdjmopolpjmaaGreatDoor.C
namespace Go.Proofs.YthbdjmopolpjmaaGreatDoor.C
open Go.ChangeShapes Go.WideShapes Go.ChangeAt Go.RowKit
theorem ahh {a b:Bool}(h:a=true)(k:b=true):(a&&b)=true:=by rw[h,k];rfl
theorem aev:joinedFacts Tryz.pinned.checked.prog 5 Tryz.f5 (Rows.OpenSpec.upto Rows.bookBackSpec).bare Rows.bookBackUptoRow=true:=by
 unfold joinedFacts
 repeat' first|(with_reducible refine ahh ?_ ?_)
 all_goals(as_aux_lemma=>kernel_rfl)
theorem ownB:ownKnob Tryz.prog.godebug=none:=by kernel_rfl
theorem laidOutB':laidOutB Tryz.prog=true:=by kernel_rfl
theorem aen:Tryz.f5.params= #[22,9]:=rfl
theorem abU (H:Type)(enc:TypeId×Value→H)(W:World)(base:Nat)(args:Array Value)(ds gs:List (DataW H))(before:List MemPlace)
  (hval:∀(j:Nat) t v,Tryz.f5.params[j]?=some t→args[j]?=some v→Value.okWide Tryz.prog W .any base t v)
  (hW:DataW.Whole enc Tryz.prog Tryz.f5.params.toList Rows.bookBackSpec.vars false W args.toList ds gs before) (hk:Rows.uptoSmall H (ds++gs)=true) (hL:laidMetH Tryz.prog Rows.bookBackUptoRow.laid W) (hsh:W.ShapedOpen Tryz.prog):
  Calls Tryz.prog 5 args W fun e W'=>∃v,e= .returned v∧Rows.bookBackSpec.post enc Tryz.prog Tryz.f5 false true false false W args v W':=by
 have hW':=hW;obtain⟨p,q,hA0,hV,rfl,hfz,hnd⟩:=hW;have hA:DataW.TrodAll enc Tryz.prog W 0 (fun _=>true) true Tryz.f5.params.toList args.toList ds p:=hA0;rw[aen]at hA hval;obtain⟨v0,v1,d0,d1,p0,p1,rfl,rfl,rfl,h0,h1⟩:=trodAll_two hA;obtain⟨rfl,rfl⟩:=trodVars_none hV;have hb:=bulks.bound hk
 have hd:Rows.uptoBulk d0≤1048576∧Rows.uptoBulk d1≤1048576:=by
  have:Rows.uptoBulkAll ([d0,d1]++[])=Rows.uptoBulk d0+(Rows.uptoBulk d1+0):=rfl;rw[this]at hb;omega
 obtain⟨a0,len0,cap0,rfl⟩:=okWide_slice Tryz.underlying22 (hval 0 22 v0 rfl rfl);obtain⟨s,rfl⟩:=okWide_string Tryz.underlying9 (hval 1 9 v1 rfl rfl);obtain⟨A,c,l,e,hi,hn⟩:=In.ahz h0 hd.1;have e2:Value.slice a0 len0 cap0=Value.slice A l.length c:=by simpa[Value.cells]using e
 rw[e2]at h0 hW'⊢;have lt0:∀x∈p0,x.block<W.heap.size:=by obtain⟨m,hm⟩:=h0;exact DataW.trod_lt m _ _ _ hm
 have lt1:∀x∈p1,x.block<W.heap.size:=by obtain⟨m,hm⟩:=h1;exact DataW.trod_lt m _ _ _ hm
 clear hA0 hA hV hval hk hb hfz hnd e e2;refine(abV A c l s W hi (aeX hL) (agJ (aaG hL).1) (agI hsh)).mono fun e W' ⟨he,bel⟩=>?_
 subst he;exact⟨_,rfl,_,_,_,[],_,[],hW',trodAll_mk1 (shut_bool Tryz.underlying4 _),trodAll_mk2 (Below.trod laidOutB' (by kernel_rfl) (of_decide_eq_true (by kernel_rfl)) h0 bel lt0) (Below.trod laidOutB' (by kernel_rfl) (of_decide_eq_true (by kernel_rfl)) h1 bel lt1),rfl,bel.frame _,fun h=>by cases h⟩
theorem aex (os:Os){H:Type}(enc:TypeId×Value→H):∃places,DataW.whole enc Tryz.prog ((aaA os).forCall (fun _ _=>0) ⟨#[],#[.slice none 0 0,.string ⟨#[]⟩],[]⟩).memory Tryz.f5.params.toList Rows.bookBackSpec.vars false #[Value.slice none 0 0,Value.string ⟨#[]⟩].toList 8=some ([.nil,.lit (.string [])],[],places):=
 ⟨[],by kernel_rfl⟩
theorem adU (os:Os)(started:os.Started)(H:Type)(enc:TypeId×Value→H)(F:Stop.Interp):
  ReturnsInHanded {} Tryz.checked os 5 .any ((Rows.OpenSpec.upto Rows.bookBackSpec).preRow enc Tryz.prog Tryz.f5 Rows.bookBackUptoRow.domain false Rows.bookBackUptoRow.laid) (((Rows.OpenSpec.upto Rows.bookBackSpec).at F).post enc Tryz.prog Tryz.f5 false true false false):=by
 obtain⟨places,hx⟩:=aex os enc
 refine returnsInHanded_of_row (C:=Tryz.checked) (s:=Rows.OpenSpec.upto Rows.bookBackSpec) ownB started (by kernel_rfl) Tryz.func5
  (witness_row_atRef (enc:=enc) (C:=Tryz.checked) false (aaA os) #[.slice none 0 0,.string ⟨#[]⟩] (ad7 os) (abr os _) (ab7 os _) (by kernel_rfl)
   (OpenSpec.preRow_of_cond 8 hx (by kernel_rfl) (fun k hk=>by cases hk;kernel_rfl) (by kernel_rfl) ?_)) ?_
 ·exact abT os _
 ·intro W base args ds gs before hval hW _ hcond _ hL hsh _;exact abU H enc W base args ds gs before hval hW (hcond _ rfl) hL hsh
theorem aeY:Rows.BookBackUptoSaid:=
 OpenClaim.holds_of_cond 5 Tryz.f5 rfl rfl rfl rfl rfl rfl rfl ⟨rfl,rfl,rfl,rfl,rfl⟩ rfl rfl rfl rfl rfl (by kernel_rfl) Tryz.func5 aev
  (of_decide_eq_true (by kernel_rfl)) (by unfold Func.isWrapper;first|(rw[if_pos (by decide+kernel)];kernel_rfl)|(rw[if_neg (by decide+kernel)];exact⟨rfl,rfl⟩))
  (fun os started H enc _ F=>by rw[OpenClaim.pre_eq_preRow];exact adU os started H enc F)
theorem aew (f:FuncId)(fn:Func)(hf:Tryz.pinned.checked.prog.funcNamed "cubit/cubitlaw29.BookBack" =some f)(hfn:Tryz.pinned.checked.prog.funcs[f]?=some fn):
  true=Tryz.pinned.checked.prog.looks []∧∀(j:Nat) t,fn.params[j]?=some t→Tryz.pinned.checked.prog.wantsStandIn t=false:=by
 obtain rfl:f=5:=Option.some.inj ((show Tryz.prog.funcNamed "cubit/cubitlaw29.BookBack" =some 5 by kernel_rfl).symm.trans hf)|>.symm
 obtain rfl:fn=Tryz.f5:=(Option.some.inj (Tryz.func5.symm.trans hfn)).symm;refine⟨by kernel_rfl,fun j t ht=>?_⟩;rw[aen]at ht;have hm:t=22∨t=9:=by simpa using Array.mem_of_getElem? ht
 rcases hm with rfl|rfl
 ·exact(show Tryz.prog.wantsStandIn 22=false by kernel_rfl)
 ·exact(show Tryz.prog.wantsStandIn 9=false by kernel_rfl)
end Go.Proofs.YthbdjmopolpjmaaGreatDoor.C
namespace Go.Proofs.YthbdjmopolpjmaaGreatDoor
theorem bookBackUpto_card:Rows.BookBackUptoCardSaid:=
 Claim7.holds_tied_plain_at .later [] _ _ _ _ C.aeY (fun _ h=>by cases h) (by kernel_rfl) (fun _ h=>by cases h) bookBackUpto_row_tie rfl ⟨rfl,rfl⟩ (by kernel_rfl) rfl C.aew (by kernel_rfl)
end Go.Proofs.YthbdjmopolpjmaaGreatDoor
