/- The links of the tilings, of the program: the walk. Conditions: the library's table of powers, as its text lays it. -/
import Derived.Test.YtfdbcihcdjjdhaaGreatDoorZFlipsW
import Derived.Test.YtfdbcihcdjjdhaaGreatDoorZTxtW
import Derived.Test.YtfdbcihcdjjdhaaGreatDoorZBfsI
import Derived.Maps.Own
import Derived.Maps.OwnOps
namespace Go.Proofs.YtfdbcihcdjjdhaaGreatDoor
open Go.ChangeShapes Go.WideShapes Go.ChangeAt Go.RowKit Go.WideMaps Go.Maps
set_option linter.unusedVariables false
set_option linter.unusedSimpArgs false
theorem rowInts:Row Tryz.prog 170 22 (.slice none 0 0) 1 24:=⟨Tryz.underlying170,by kernel_rfl,rfl,by decide⟩
theorem lawS:Keyed Tryz.prog 9:=string_keyed Tryz.underlying9
theorem zeroInt (w:World):(zeroValue 3).run Tryz.prog w= .ok (.int .i64 0) w:=by kernel_rfl
theorem look_at {T:List (List Dm)} (hT:FlipSet T) (hok:∀t∈T,∀d∈t,domOk d=true) {j:Nat} (hj:j<T.length) {c:Cl} (hc:c∈flips (til T j)) (z:DataW Unit):(nmap T T.length).atKey (keyT (flipTo (til T j) c)) z= .lit (.int .i64 (linkI T j c)):=by
 have hm:=hT.cl _ (List.getElem_mem hj) c (by rw[←til_at hj];exact mem_flips.1 hc)
 rw[til_at hj]
 obtain⟨h1,h2⟩:=ix_mem hm.1
 have h3:=nmap_at hT.nd hok (i:=ix T (flipTo T[j] c)) z T.length (Nat.le_refl _) h1
 rw[til_at h1,h2]at h3
 unfold linkI
 rw[til_at hj]
 exact h3
theorem tilT_le {l:List Dm} (hl:∀d∈l,domOk d=true) (h64:l.length≤64):(tilT l).size≤maxLen:=by
 have h1:=tilT_size hl h64
 rw[←tilT_join]
 have e:∀x:Bs,(toB x).size=x.length:=fun x=>rfl
 rw[e]
 unfold maxLen;omega
theorem gr_of {w w':World} (hb:Below w.heap.size w w'):w.grownBy w' none:=⟨hb.os,hb.tape,hb.output,hb.size,fun k hk _=>hb.block k hk⟩
set_option maxHeartbeats 4000000 in
set_option maxRecDepth 100000 in
theorem nearI_any {B:Nat} (v:Value) (T:List (List Dm)) (w:World) (h:OwnLL 33 90 3 eDom B w v T) (hT:FlipSet T) (hok:∀t∈T,(∀d∈t,domOk d=true)∧t.length≤64) (ht:Tab w):
 Calls Tryz.prog 170 #[v] w (fun e w'=>∃A c,e= .returned (.slice A T.length c)∧OwnLL 22 3 1 eInt w.heap.size w' (.slice A T.length c) (nearLL T T.length)∧Below w.heap.size w w'):=by
 obtain⟨A,c,rfl,hc,hm⟩:=h.form
 have hsm:=hT.sm
 have hmm:= @run_makeMap Tryz.prog
 have HT:=Lib.hid ht;have HF:=Lib.hid hT;have HK:=Lib.hid hok
 clear ht hT hok hc hm
 obtain⟨gM,hgM⟩:∃g,g=w.heap.size:=⟨_,rfl⟩
 have hM0:=World.ownsMap_made (H:=Unit) w Tryz.prog 9 (plainElem (H:=Unit) Tryz.prog 3)
 have HGM:=Lib.hid hgM
 rw[←hgM]at hM0
 go_enter Tryz.func170,Tryz.ntmps170
 rw[←hgM]
 clear hgM
 go_wp2
 go_loopw [4,5,17] (fun s4 s5 s17 wr=>∃(k:Nat) (z4 z5:Value),s4=z4∧s5=z5∧k≤T.length∧s17= .int .i64 k∧wr.ownsMap Tryz.prog 9 (plainElem (H:=Unit) Tryz.prog 3) gM k (nmap T k)∧Below w.heap.size w wr) (fun _ _ i _=>T.length-(intOf i).toNat)
 case atStart=>exact⟨0,_,_,rfl,rfl,Nat.zero_le _,rfl,hM0,(Below.refl _ _).al _⟩
 case round=>
  obtain⟨k,z4,z5,rfl,rfl,hk,rfl,hown,hbel⟩:=hrel
  clear hM0
  by_cases hlt:k<T.length
  · obtain⟨g,D,d,rfl,hg1,hg2,c1,tk⟩:=(h.below hbel).pick hlt
    have hki:(k:Int)<(T.length:Int):=by omega
    obtain⟨l,hl⟩:∃l,l=T[k]:=⟨_,rfl⟩
    have hlo:(∀d∈l,domOk d=true)∧l.length≤64:=by rw[hl];exact HK.out _ (List.getElem_mem hlt)
    have hnx:(nmap T k).put (keyT l) (.lit (.int .i64 (k:Int)))=nmap T (k+1):=by rw[nmap_succ,til_at hlt,hl]
    rw[←hl]at c1 tk
    have HL:=Lib.hid hl;have HLO:=Lib.hid hlo;have HNX:=Lib.hid hnx
    have hkey:keyOf Tryz.prog 9 (.string (tilT l))=some (keyT l):=keyOf_string_mk Tryz.underlying9 (tilT_le hlo.1 hlo.2)
    have HKey:=Lib.hid hkey
    clear hl hlo hnx hkey
    go_wp2_with fail
    refine(tilTextI_any _ l _ (tk.rd lenDom (by decide)) HLO.out.1 HLO.out.2 (HT.out.below hbel)).mono ?_
    rintro e w1 ⟨rfl,hb1⟩
    have B1:=hbel.tr hb1
    have own1:=hown.kept (gr_of hb1) (by simp)
    have hmx:k<maxLen:=by unfold maxLen;omega
    go_wp2_with (at_mapUpdate;go_must (refine wpList_mapUpdate_own _ rfl _ _ _ 226 rfl 9 3 lawS Tryz.underlying226 _ w.heap.size k _ rfl (by rw[←HGM.out];exact own1) hmx _ _ _ rfl rfl HKey.out _ [] (plainElem_int Tryz.underlying3 (WalkArith.wf_i64 (by omega))) ?_);intro w2 own2 hg2)
    rw[HNX.out,←HGM.out]at own2
    have B2:=B1.grown hg2 B1.size (fun j hj=>by injection hj with hj;subst hj;exact Nat.le_refl _)
    go_roundw
    case rel=>exact⟨k+1,_,_,rfl,rfl,by omega,by go_num,own2,B2⟩
    case measure=>simp[intOf];omega
  · obtain rfl : k = T.length := by omega
    have hgM:gM+1≤wr.heap.size:=by have:=hown.lt;omega
    have oo:=own_mt wr (E:=22) (size:=1) (enc:=eV) wr.heap.size rfl (gM+1) hgM
    have oLL:OwnLL 22 3 1 eInt (gM+1) (wr.alloc (.cells #[] 22)) (.slice (some ⟨wr.heap.size,0,none⟩) 0 0) (nearLL T 0):=⟨[],oo,rfl,fun k u x hu=>by simp at hu⟩
    have hown2:=hown.alloc (.cells #[] 22)
    have B2:=hbel.al (.cells #[] 22)
    clear oo
    go_wp2
    go_loopw [6,8,9,11,12,13,30] (fun s6 s8 s9 s11 s12 s13 s30 wr=>∃(k:Nat) (D:Option Addr) (d:Nat) (z8 z9 z11 z12 z13:Value),s8=z8∧s9=z9∧s11=z11∧s12=z12∧s13=z13∧k≤T.length∧s30= .int .i64 k∧s6= .slice D k d∧OwnLL 22 3 1 eInt (gM+1) wr (.slice D k d) (nearLL T k)∧wr.ownsMap Tryz.prog 9 (plainElem (H:=Unit) Tryz.prog 3) gM T.length (nmap T T.length)∧Below w.heap.size w wr) (fun _ _ _ _ _ _ i _=>T.length-(intOf i).toNat)
    case atStart=>exact⟨0,_,_,_,_,_,_,_,rfl,rfl,rfl,rfl,rfl,Nat.zero_le _,rfl,rfl,oLL,hown2,B2⟩
    case round=>
     clear oLL hown2 B2 hgM hown hbel
     obtain⟨k,D,d,z8,z9,z11,z12,z13,rfl,rfl,rfl,rfl,rfl,hk,rfl,rfl,oLL,hown,hbel⟩:=hrel
     by_cases hlt:k<T.length
     · obtain⟨g,D1,d1,rfl,hg1,hg2,c1,tk⟩:=(h.below hbel).pick hlt
       have hki:(k:Int)<(T.length:Int):=by omega
       obtain⟨l,hl⟩:∃l,l=T[k]:=⟨_,rfl⟩
       have hlo:(∀d∈l,domOk d=true)∧l.length≤64:=by rw[hl];exact HK.out _ (List.getElem_mem hlt)
       have htil:til T k=l:=by rw[til_at hlt,hl]
       rw[←hl]at c1 tk
       have HLO:=Lib.hid hlo;have HTL:=Lib.hid htil;have HLt:=Lib.hid hlt
       have hsl:Small l.length:=by have:=hlo.2;unfold Small;omega
       clear hl hlo htil
       have hgM:gM+1≤wr.heap.size:=by have:=hown.lt;omega
       have oi:=own_mt wr (E:=3) (size:=1) (enc:=eInt) wr.heap.size rfl (gM+1) hgM
       have tk2:=tk.alloc (.cells #[] 3)
       go_wp2_with fail
       refine(flipsI_any _ l _ (tk2.rd lenDom (by decide))).mono ?_
       rintro e w1 ⟨A6,c6,rfl,oF,hb1⟩
       have oi1:=oi.below hb1
       have tk1:=tk2.below hb1
       have oLL1:=(oLL.alloc (.cells #[] 3)).below hb1
       have own1:=(hown.alloc (.cells #[] 3)).kept (gr_of hb1) (by simp)
       have B1:=(hbel.al (.cells #[] 3)).tr hb1
       have hfl:=flips_len l
       obtain⟨F,hF⟩:∃F,F=flips l:=⟨_,rfl⟩
       rw[←hF]at oF hfl⊢
       have HF2:=Lib.hid hF
       clear hF oi tk2 oLL hown hbel hb1 tk c1
       have hn0:Hid (nearTo T k 0=[]):=Lib.hid rfl
       go_wp2
       go_loopw [9,11,12,13,38] (fun s9 s11 s12 s13 s38 wr=>∃(t:Nat) (D:Option Addr) (d:Nat) (z11 z12 z13:Value),s11=z11∧s12=z12∧s13=z13∧t≤F.length∧s38= .int .i64 t∧s9= .slice D t d∧OwnL 3 1 eInt (gM+1) wr (.slice D t d) (nearTo T k t)∧Below w1.heap.size w1 wr) (fun _ _ _ _ i _=>F.length-(intOf i).toNat)
       case atStart=>exact⟨0,_,_,_,_,_,rfl,rfl,rfl,Nat.zero_le _,rfl,rfl,oi1,Below.refl _ _⟩
       case round=>
        clear oi1
        obtain⟨t,D2,d2,z11,z12,z13,rfl,rfl,rfl,ht,rfl,rfl,hown,hbel⟩:=hrel
        by_cases hlt2:t<F.length
        · have oF2:=oF.below hbel
          obtain⟨b,off,rfl,hb,q0,q1⟩:=(oF2.rd lenCell (by decide)).atPair hlt2
          obtain⟨xy,hxy⟩:∃xy,xy=F[t]:=⟨_,rfl⟩
          have hmem:xy∈flips l:=by rw[hxy,←HF2.out];exact List.getElem_mem hlt2
          rw[←hxy]at q0 q1
          obtain⟨x,y⟩:=xy
          simp only at q0 q1
          have hkd:¬kindOf l (x,y)=0:=mem_flips.1 hmem
          have hnT:=(HF.out.cl _ (List.getElem_mem HLt.out) (x,y) (by rw[←til_at HLt.out,HTL.out];exact hkd)).1
          rw[←til_at HLt.out,HTL.out]at hnT
          have hno:=HK.out _ hnT
          have hlk:=fun z=>look_at HF.out (fun t ht=>(HK.out t ht).1) HLt.out (c:=(x,y)) (by rw[HTL.out];exact hmem) z
          rw[HTL.out]at hlk
          have hkey:keyOf Tryz.prog 9 (.string (tilT (flipTo l (x,y))))=some (keyT (flipTo l (x,y))):=keyOf_string_mk Tryz.underlying9 (tilT_le hno.1 hno.2)
          have hnx:nearTo T k (t+1)=putI (linkI T k (x,y)) (nearTo T k t):=by
           have hlt3:t<(flips (til T k)).length:=by rw[HTL.out,←HF2.out];exact hlt2
           rw[nearTo_succ hlt3]
           congr 1
           congr 1
           rw[hxy]
           congr 1
           · rw[HF2.out,HTL.out]
          have hnl:(nearTo T k t).length=t:=nearTo_len t (by rw[HTL.out,←HF2.out];omega)
          have HNX:=Lib.hid hnx;have HNL:=Lib.hid hnl;have HKey:=Lib.hid hkey;have HLK:=Lib.hid hlk;have HNO:=Lib.hid hno;have HKD:=Lib.hid hkd
          clear hnx hnl hkey hlk hno hkd hmem hxy hnT oF2
          have hti:(t:Int)<(F.length:Int):=by omega
          have B2:=hbel.al (.cells #[.int .i64 x,.int .i64 y] 77)
          have b2:=Blk.new_ wr 77 #[.int .i64 x,.int .i64 y]
          have own2:=hown.alloc (.cells #[.int .i64 x,.int .i64 y] 77)
          have tk2:=tk1.below B2
          go_wp2_with fail
          refine(flipAtI_yes _ l x y _ (tk2.rd lenDom (by decide)) hsl HKD.out).mono ?_
          rintro e w2 ⟨A7,c7,rfl,oN,hb2⟩
          have B3:=B2.tr hb2
          have own3:=own2.below hb2
          have oM3:=own1.kept (gr_of B3) (by simp)
          obtain⟨N,hN⟩:∃N,N=flipTo l (x,y):=⟨_,rfl⟩
          rw[←hN]at oN HKey HLK HNO⊢
          have HN2:=Lib.hid hN;clear hN
          go_wp2_with fail
          refine(tilTextI_any _ N _ (oN.rd lenDom (by decide)) HNO.out.1 HNO.out.2 (HT.out.below (B1.tr B3))).mono ?_
          rintro e w3 ⟨rfl,hb3⟩
          have B4:=B3.tr hb3
          have own4:=own3.below hb3
          have oM4:=own1.kept (gr_of B4) (by simp)
          go_wp2_with (at_lookup;go_must (refine wpList_lookup_own_int _ rfl _ _ 226 rfl 9 3 .i64 lawS Tryz.underlying226 Tryz.underlying3 (zeroInt _) w.heap.size T.length _ rfl (by rw[←HGM.out];exact oM4) _ _ rfl HKey.out ?_);intro cc hat hwc)
          have hcc:cc=linkI T k (x,y):=by
           rw[HLK.out]at hat
           injection hat with hat
           injection hat with _ hat
           exact hat.symm
          subst hcc
          refine(putI_any _ (nearTo T k t) _ _ (own4.rd lenInt (by decide)) (by rw[HNL.out];omega)).mono ?_
          rintro e w5 ⟨A8,c8,rfl,oP,hb5⟩
          have B5:=B4.tr hb5
          have hpl:(putI (linkI T k (x,y)) (nearTo T k t)).length=t+1:=by rw[putI_len,HNL.out]
          rw[hpl]at oP⊢
          rw[←HNX.out]at oP
          have hgs:gM+1≤w3.heap.size:=by have:=oM4.lt;omega
          go_wp2
          go_roundw
          case rel=>exact⟨t+1,A8,c8,_,_,_,rfl,rfl,rfl,by omega,by go_num,rfl,oP.mono hgs,B5⟩
          case measure=>simp[intOf];omega
        · obtain rfl : t = F.length := by omega
          have hnl:nearTo T k F.length=nearL T k:=by unfold nearL;rw[HTL.out,←HF2.out]
          rw[hnl]at hown
          obtain⟨us,h1,h2,h3⟩:=oLL1.below hbel
          have huk:us.length=k:=by rw[h2];exact nearLL_len T k
          have oM2:=own1.kept (gr_of hbel) (by simp)
          have B2:=B1.tr hbel
          have H8:Hid ((us.length+1)*24≤140737488355328):=Lib.hid (by rw[huk];omega)
          have HM:Hid (us.length+1≤maxLen):=Lib.hid (by rw[huk];unfold maxLen;omega)
          have hsz:gM+1≤wr.heap.size:=by have:=oM2.lt;omega
          have hrow:∀j,(Value.slice D k d).ownBlock=some j→gM+1≤j:=fun j hj=>(World.ownsRow.lt h1 j hj).1
          have HUK:=Lib.hid huk;have HNL:=Lib.hid (nearLL_succ T k);have HRow:=Lib.hid hrow
          clear huk hnl hrow oLL1 own1 B1
          go_wp2_with (at_builtin;go_must (refine wpList_appX (enc:=eV) rowInts lenV wr hsz h1 (.slice D2 F.length d2) (by simp[eV,Value.oneCell']) rfl H8.out HM.out rfl _ _ rfl rfl rfl ?_);intro A5 c5 w5 o5 g5 hd5)
          have oN5:=OwnLL.snoc (by decide) h1 h2 h3 hown o5 g5
          rw[HNL.out,HUK.out]at oN5
          have oM5:=oM2.kept g5 (fun e=>by have:=HRow.out gM e.symm;omega)
          have B5:=B2.grown g5 B2.size (fun j hj=>by have:=HRow.out j hj;rw[HGM.out]at this;omega)
          go_roundw
          case rel=>exact⟨k+1,A5,c5,_,_,_,_,_,rfl,rfl,rfl,rfl,rfl,by omega,by go_num,by rw[nearLL_len],oN5,oM5,B5⟩
          case measure=>simp[intOf];omega
     · obtain rfl : k = T.length := by omega
       go_wp2
       go_ret
       exact⟨_,_,rfl,oLL.mono (by omega),by rw[HGM.out];exact hbel⟩
end Go.Proofs.YtfdbcihcdjjdhaaGreatDoor
