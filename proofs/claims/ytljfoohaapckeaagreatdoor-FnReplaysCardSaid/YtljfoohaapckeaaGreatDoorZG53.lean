/- Twelve numbers drawn. Conditions: sizes. Acts done in two parts; numbers changed. Plain laws; no program in sight. Lists of numbers compared, on all sides: the walks. No conditions. IsReplay of the program: the walk. Conditions: sizes; the library's table of powers, as its text lays it. FnReplays: the law's walk. No conditions but sizes; the library's table of powers. -/
import Derived.Test.YtljfoohaapckeaaGreatDoorZG8
import Derived.Test.YtljfoohaapckeaaGreatDoorZG46
import Derived.Test.YtljfoohaapckeaaGreatDoorZK1
import Derived.Test.YtljfoohaapckeaaGreatDoorZG51
open _root_.Go.Proofs.Tryz (prog func66 ntmps66 func4 ntmps4)
namespace Go.Proofs.YtljfoohaapckeaaGreatDoor
open Go.ChangeShapes Go.WideShapes Go.ChangeAt Go.RowKit
set_option linter.unusedVariables false
set_option linter.unusedSimpArgs false
set_option maxHeartbeats 4000000
set_option maxRecDepth 100000
def Rv (w:World) (e:Ending) (w':World):Prop:=∃(ps:List Int) (A:Option Addr) (c:Nat),e= .returned (.slice A ps.length c)/\aD 3 1 bH w.heap.size w' (.slice A ps.length c) ps/\ps.length=12/\(∀x∈ps,0<=x/\x<10000)/\Below w.heap.size w w'
theorem KI (v : Value) (l : List Int) (w : World) (h : Rd 1 lM w v l) (ok : mH (fun x => 0 <= x /\ x <= 255) l) (hl : l.length <= 1048576) :
 Calls prog 19 #[v] w (Rv w):=by
 have Hok:=Sb ok;go_enter Tryz.func19,Tryz.ntmps19
 go_wp2_with fail
 refine(GD _ l _ h ok hl).mono ?_;rintro e w1 ⟨g,rfl,hg,hcur,hb1⟩;have hW:w.heap.size<=w.heap.size:=Nat.le_refl _;have own0:=gV w1 (E:=3) (size:=1) (enc:=bH) w1.heap.size rfl w.heap.size hb1.size;have D0:DS w w w1 g v l.length:=⟨hcur,hb1,Ni (World.grownBy.refl w (some g)) hb1⟩;have D1:=D0.al (.cells #[] 3);clear hcur hb1 D0;go_wp2;go_loopw [4,5] (fun s4 s5 wr=>∃(ps:List Int) (A:Option Addr) (c:Nat),ps.length<=12/\s5= .int .i64 ps.length/\s4= .slice A ps.length c/\Hid (∀x∈ps,0<=x/\x<10000)/\aD 3 1 bH w.heap.size wr (.slice A ps.length c) ps/\DS w w wr g v l.length) (fun _ i _=>12-(intOf i).toNat)
 case atStart=>exact⟨[],_,_,by simp,rfl,rfl,Sb (fun x hx=>by cases hx),own0,D1⟩
 case round=>
  obtain⟨ps,A,c,hk,rfl,rfl,Hb,hown,D⟩:=hrel;clear own0 D1;by_cases hlt:(ps.length:Int)<12
  . go_wp2_with fail
    refine(aP 10000 w g v l _ h Hok hg D.B D.cur (by decide)).mono ?_;rintro e w2 ⟨s,rfl,hs,c2,B2,g2⟩;have own2:=hown.cur D.cur (by decide) g2;have D2:=D.dr c2 B2 g2;have hss:0<=s/\s<10000:=by unfold dX at hs;omega
    clear hs c2 B2 g2;have H8:Hid ((ps.length+1)*8<=140737488355328):=Sb (by omega);have HM:Hid (ps.length+1<=maxLen):=Sb (by unfold maxLen;omega);go_wp2_with (at_builtin;go_must (refine qN (enc:=bH) fA aI iU (B:=w.heap.size) w2 (Nat.le_trans D2.gr.size (Nat.le_refl _)) own2 s rfl H8.out HM.out rfl _ _ rfl rfl rfl ?_);intro v4 w4 own4 hg4 hv4;obtain⟨A4,c4,rfl⟩:=hv4)
    have D4:=D2.app own2 (by decide) (Nat.le_refl _) hW hg4;go_roundw
    case rel=>exact⟨ps++[s],A4,c4,by simp;omega,by simp,by simp,Sb (fun q hq=>(List.mem_append.1 hq).elim (Hb.out q) (fun hq=>by rw[List.mem_singleton.1 hq];exact hss)),by rw[List.length_append,List.length_singleton];exact own4,D4⟩
    case measure=>simp[intOf];omega
  . go_wp2;go_ret;exact⟨ps,A,c,rfl,hown,by omega,Hb.out,D.B⟩
theorem Rw {l:List Int} {k:Nat} (hk:k<l.length) {x:Int} (hx:x≠l[k]):(l==l.set k x)=false:=by
 rw[beq_eq_false_iff_ne];intro e;have:=congrArg (fun m:List Int=>m[k]?) e;simp only[List.getElem?_eq_getElem hk]at this;rw[List.getElem?_set_self hk]at this;injection this with this;exact hx this.symm
theorem Qz (x:Int):wrap64 (x+1)≠x:=by
 unfold wrap64;omega
end Go.Proofs.YtljfoohaapckeaaGreatDoor
namespace Go.Proofs.YtljfoohaapckeaaGreatDoor
open Go.RowKit
set_option linter.unusedVariables false
set_option maxHeartbeats 4000000
set_option maxRecDepth 100000
theorem EW (u v:Value) (l m:List (Int)) (w:World) (h:Rd 1 (RE bH) w u l) (h':Rd 1 (RE bH) w v m):Calls prog 66 #[u,v] w (Ret (.bool (l==m)) w):=by
 obtain⟨A,c,rfl,hc,hm⟩:=h.form;obtain⟨A',c',rfl,hc',hm'⟩:=h'.form;by_cases hlen:l.length=m.length
 . have hne : ((l.length : Int) != (m.length : Int)) = false := by simp [hlen]
   have Hlen:=Sb hlen;clear hlen;go_enter func66,ntmps66
   go_wp2;go_loopw [13] (fun i wr=>∃k:Nat,k<=l.length/\i= .int .i64 k/\Hid ((l.drop k==m.drop k)=(l==m))/\Below w.heap.size w wr) (fun i _=>l.length-(intOf i).toNat)
   case atStart=>exact⟨0,Nat.zero_le _,rfl,Sb rfl,Below.refl _ _⟩
   case round=>
    obtain⟨k,hk,rfl,Hg,hbel⟩:=hrel;by_cases hlt:k<l.length
    . have hlm : k < m.length := by have := Hlen.out; omega
      obtain⟨b,off,rfl,hb,h1⟩:=(h.Sa hbel).qL hlt;obtain⟨b',off',rfl,hb',q1⟩:=(h'.Sa hbel).qL hlm;have hlt':(k:Int)<(m.length:Int):=(by omega);go_wp2_with fail
      go_quiet (fail)
      go_wp2
      all_goals first
        | (go_roundw
           case rel=>exact⟨k+1,by omega,by go_num,eq_go Hg hlt hlm (by rename_i hx;simpa using hx),below_drewN hbel _⟩
           case measure=>simp[intOf];omega)
        | (go_ret
           exact⟨kR (RL Hg hlt hlm (by rename_i hx;simpa using hx)).symm,below_drewN hbel _⟩)
    . go_wp2;go_ret;exact⟨kR (QX Hg (by omega) (by have:=Hlen.out;omega)).symm,hbel⟩
 . have hne : ((l.length : Int) != (m.length : Int)) = true := by simp; omega
   go_enter func66,ntmps66
   go_wp2;go_ret;exact⟨kR (by rw[eq_comm,beq_eq_false_iff_ne];exact fun e=>hlen (by rw[e])),Below.refl _ _⟩
end Go.Proofs.YtljfoohaapckeaaGreatDoor
namespace Go.Proofs.YtljfoohaapckeaaGreatDoor
open Go.ChangeShapes Go.WideShapes Go.ChangeAt Go.RowKit
set_option linter.unusedVariables false
set_option linter.unusedSimpArgs false
set_option maxHeartbeats 4000000
set_option maxRecDepth 100000
noncomputable def KJ (y:Wk) (l:List Ac) (ns:List Int):Bool:=bT y&&decide (l.length<=40)&&((Gc y l).2==ns)
theorem OO (u1 u2 u3 u4 u5 u6:Value) (x:Fl) (s p r:Int) (l:List Ac) (ns:List Int) (w:World) (h1:Rd 1 bG w u1 x.1) (h2:Rd 3 aU w u2 x.2.1) (h3:Rd 3 aU w u3 x.2.2.1) (h4:Rd 2 cO w u4 x.2.2.2) (h5:Rd 3 (RE vR) w u5 l) (h6:Rd 1 bG w u6 ns) (hs:dE x)(ht:Tab w):
 Calls prog 18 #[.agg #[u1,u2,u3,u4,.int .i64 s,.int .i64 p,.int .i64 r],u5,u6] w (Ret (.bool (KJ (x,s,p,r) l ns)) w):=by
 obtain⟨A5,c5,rfl,hc5,hm5⟩:=h5.form;obtain⟨A6,c6,rfl,hc6,hm6⟩:=h6.form;obtain⟨kk,hkk⟩:=R9 (bT (x,s,p,r));obtain⟨bb,hbb⟩:=R9 (KJ (x,s,p,r) l ns);obtain⟨R,hR0⟩:=R9 (Gc (x,s,p,r) l);have hB:bb=(kk&&decide (l.length<=40)&&(R.2==ns)):=by rw[hbb];unfold KJ;rw[<-hkk,<-hR0]
 rw[<-hbb];have CK:∀w,R4 w u1 u2 u3 u4 x->Calls prog 16 #[.agg #[u1,u2,u3,u4,.int .i64 s,.int .i64 p,.int .i64 r]] w (Ret (.bool kk) w):=fun w h=>by rw[hkk];exact fF _ _ _ _ (x,s,p,r) w h.a h.b h.c h.d hs.2.1
 have CR:∀w,R4 w u1 u2 u3 u4 x->Rd 3 (RE vR) w (.slice A5 l.length c5) l->Tab w->Calls prog 15 #[.agg #[u1,u2,u3,u4,.int .i64 s,.int .i64 p,.int .i64 r],.slice A5 l.length c5] w (Pt R w):=fun w h h' ht=>by rw[hR0];exact ED _ _ _ _ _ x s p r l w h.a h.b h.c h.d h' hs ht
 have hR:R4 w u1 u2 u3 u4 x:=⟨h1,h2,h3,h4⟩;have HB:=Sb hB;clear hB hbb hkk hR0 h1 h2 h3 h4;obtain⟨⟨x2,s2,p2,r2⟩,NS⟩:=R;have B0:=(Below.refl w.heap.size w).al (.cells #[u1,u2,u3,u4,.int .i64 s,.int .i64 p,.int .i64 r] 32);have bP:=Blk.aZ w 32 #[u1,u2,u3,u4,.int .i64 s,.int .i64 p,.int .i64 r];go_enter Tryz.func18,Tryz.ntmps18
 go_wp2_with fail
 refine(CK _ (hR.bl B0)).mono ?_;rintro e w1 ⟨rfl,hb1⟩;have B1:=B0.tr hb1;have bP1:=bP.bl hb1;cases kk
 . obtain rfl:bb=false:=HB.out;go_wp2;go_ret;exact⟨rfl,B1⟩
 . by_cases h40:l.length<=40
   . have h40' : decide ((40 : Int) < (l.length : Int)) = false := decide_eq_false (by omega);obtain⟨y_0,y_1,y_2,y_3,y_4,y_5,y_6⟩:=bP1.n7;go_wp2_with fail
     refine(CR _ (hR.bl B1) (h5.Sa B1) (ht.below B1)).mono ?_;rintro e w2 ⟨E1,E2,E3,E4,A,c,rfl,oT,oN,ap,hb2⟩;have B2:=B1.tr hb2;go_upto_region 4 with(refine aA rfl 32 _ _ rfl w2.heap.size #[E1,E2,E3,E4,.int .i64 s2,.int .i64 p2,.int .i64 r2] rfl rfl _ _ (Blk.aZ w2 32 #[.slice none 0 0,.slice none 0 0,.slice none 0 0,.slice none 0 0,.int .i64 0,.int .i64 0,.int .i64 0]) (by kernel_rfl) rfl (mF oT.one) ?_;intro w3 bM hg3)
     have oN3:=oN.RJ (by decide) hg3;have B3:=(B2.al _).grown hg3 (B2.al _).size (fun k hk=>by injection hk with hk;subst hk;exact B2.size);go_wp2_with fail
     refine(EW _ _ NS ns _ (oN3.rd aI (by decide)) (h6.Sa B3)).mono ?_;rintro e w4 ⟨rfl,hb4⟩;have hbb:bb=(NS==ns):=by rw[HB.out,decide_eq_true h40];rfl
     rw[<-hbb];clear hbb;go_wp2;go_ret;exact⟨rfl,B3.tr hb4⟩
   . have h40' : decide ((40 : Int) < (l.length : Int)) = true := decide_eq_true (by omega);obtain rfl:bb=false:=by rw[HB.out,decide_eq_false h40];rfl
     go_wp2;go_ret;exact⟨rfl,B1⟩
theorem Ck (w : World) (tab : Tab w) (v : Value) (l : List Int) (h : Rd 1 lM w v l) (ok : mH (fun x => 0 <= x /\ x <= 255) l) : Calls prog 4 #[v] w (Ret (.bool true) w) := by
 by_cases hsz:1048576<l.length
 . have hd : decide (1048576 < l.length) = true := by simpa using hsz
   have Hd:=Sb hd;clear hd;go_enter func4,ntmps4
   go_wp2_with fail
   refine(zG _ l _ h).mono ?_;rintro e w0 ⟨rfl,rfl⟩;rw[Hd.out];go_wp2;go_ret;exact⟨rfl,Below.refl _ _⟩
 . have hd : decide (1048576 < l.length) = false := by simpa using hsz
   have Hd:=Sb hd;clear hd;have hl:l.length<=1048576:=(by omega);have Hok:=Sb ok;have HTB:=Sb tab;clear ok tab;go_enter func4,ntmps4
   go_wp2_with fail
   refine(zG _ l _ h).mono ?_;rintro e w0 ⟨rfl,rfl⟩;rw[Hd.out];go_wp2_with fail
   refine(sW _ l _ h Hok.out hl).mono ?_;rintro e w1 ⟨x,s,p,r,V1,V2,V3,V4,al,A,c,rfl,oF,hk,hs,oA,hal,hac,hb1⟩;have HK:=Sb hk;have HS:=Sb hs;clear hk hs hac;go_upto_region 4 with(refine aA rfl 32 _ _ rfl w1.heap.size #[V1,V2,V3,V4,.int .i64 s,.int .i64 p,.int .i64 r] rfl rfl _ _ (Blk.aZ w1 32 #[.slice none 0 0,.slice none 0 0,.slice none 0 0,.slice none 0 0,.int .i64 0,.int .i64 0,.int .i64 0]) (by kernel_rfl) rfl (mF oF.one) ?_;intro w2 bO hg2)
   have oF2:=aB.alg oF (by decide) (by decide) (by decide) hg2;have oA2:=aD.xL (oA.alloc (.cells #[.slice none 0 0,.slice none 0 0,.slice none 0 0,.slice none 0 0,.int .i64 0,.int .i64 0,.int .i64 0] 32)) (Blk.aZ w1 32 #[.slice none 0 0,.slice none 0 0,.slice none 0 0,.slice none 0 0,.int .i64 0,.int .i64 0,.int .i64 0]) (by decide) hg2;have B2:=(hb1.al (.cells #[.slice none 0 0,.slice none 0 0,.slice none 0 0,.slice none 0 0,.int .i64 0,.int .i64 0,.int .i64 0] 32)).grown hg2 (hb1.al _).size (fun k hk=>by injection hk with hk;subst hk;exact hb1.size);clear oF oA hb1 hg2;obtain⟨gO,hgO⟩:=R9 w1.heap.size;rw[<-hgO]at bO⊢;clear hgO;obtain⟨R,hR⟩:=R9 (Gc (x,s,p,r) al);have HR:=Sb (show R.2.length=al.length/\∀ns,KJ (x,s,p,r) al ns=(R.2==ns) from by rw[hR];exact⟨JI HK.out (by omega),fun ns=>by unfold KJ;rw[HK.out,decide_eq_true (show al.length<=40 by omega)];rfl⟩);obtain⟨y_0,y_1,y_2,y_3,y_4,y_5,y_6⟩:=bO.n7;have CT:=ED V1 V2 V3 V4 (.slice A al.length c) x s p r al w2 oF2.ra oF2.rb oF2.rc oF2.rd (oA2.rd (fun _=>rfl) (by decide)) HS.out (HTB.out.below B2);rw[<-hR]at CT;clear hR;go_wp2_with fail
   refine CT.mono ?_;rintro e w3 ⟨U1,U2,U3,U4,A5,c5,rfl,oR,oN,_,hb3⟩;obtain⟨⟨⟨X,S,P,Q⟩,N⟩,hRe⟩:∃q,q=R:=⟨_,rfl⟩;subst hRe;simp only at oN oR;clear y_0 y_1 y_2 y_3 y_4 y_5 y_6 CT;go_upto_region 5 with(refine aA rfl 32 _ _ rfl w3.heap.size #[U1,U2,U3,U4,.int .i64 S,.int .i64 P,.int .i64 Q] rfl rfl _ _ (Blk.aZ w3 32 #[.slice none 0 0,.slice none 0 0,.slice none 0 0,.slice none 0 0,.int .i64 0,.int .i64 0,.int .i64 0]) (by kernel_rfl) rfl (mF oR.one) ?_;intro w4 bX hg4)
   have oN4:=oN.RJ (by decide) hg4;have B4:=(hb3.al (.cells #[.slice none 0 0,.slice none 0 0,.slice none 0 0,.slice none 0 0,.int .i64 0,.int .i64 0,.int .i64 0] 32)).grown hg4 (hb3.al _).size (fun k hk=>by injection hk with hk;subst hk;exact hb3.size);clear hg4 oR hb3 oN bX;obtain⟨y_0,y_1,y_2,y_3,y_4,y_5,y_6⟩:=(bO.bl B4).n7
   have CR : ∀ (u : Value) (ns : List Int) (W : World), Below w2.heap.size w2 W -> Rd 1 bG W u ns -> Calls prog 18 #[.agg #[V1, V2, V3, V4, .int .i64 s, .int .i64 p, .int .i64 r], .slice A al.length c, u] W (Ret (.bool (N == ns)) W) := fun u ns W hb k => by
    have oF':=oF2.below hb;have:=OO V1 V2 V3 V4 (.slice A al.length c) u x s p r al ns W oF'.ra oF'.rb oF'.rc oF'.rd ((oA2.below hb).rd (fun _=>rfl) (by decide)) k HS.out (HTB.out.below (B2.tr hb));rw[HR.out.2 ns]at this;exact this
   have C1:=CR _ N w4 B4 (oN4.rd aI (by decide));rw[beq_self_eq_true]at C1;go_wp2_with fail
   refine C1.mono ?_;rintro e w5 ⟨rfl,hb5⟩;have oN5:=oN4.below hb5;have B5:=B4.tr hb5;clear y_0 y_1 y_2 y_3 y_4 y_5 y_6 C1 oN4 B4 hb5;obtain⟨y_0,y_1,y_2,y_3,y_4,y_5,y_6⟩:=(bO.bl B5).n7;by_cases hz:N.length=0
   . have hzI : (N.length : Int) = 0 := by omega
     have hN1:(N==[1])=false:=by rw[List.length_eq_zero_iff.1 hz];rfl
     have own1:=wN (E:=3) (enc:=bH) w5 (1:Int) rfl;have C2:=CR _ [1] _ (B5.al _) (own1.rd aI (by decide));rw[hN1]at C2;go_wp2_with fail
     refine C2.mono ?_;rintro e w6 ⟨rfl,hb6⟩;go_wp2;go_ret;exact⟨rfl,(B2.tr (B5.al _)).tr hb6⟩
   . have hzI : ¬ (N.length : Int) = 0 := by omega
     go_wp2_with fail
     refine(KI _ l _ (h.Sa (B2.tr B5)) Hok.out hl).mono ?_;rintro e w6 ⟨ps,A7,c7,rfl,oP,hpl,hpb,hb6⟩;have oN6:=oN5.below hb6;have B6:=B5.tr hb6;have h0:0<ps.length:=(by omega);obtain⟨b,off,rfl,hb,k1⟩:=(oP.rd aI (by decide)).qL h0;simp only[Nat.add_zero]at k1;have hp:=hpb ps[0] (List.getElem_mem h0);obtain⟨p0,hp0⟩:=R9 (ps[0]);rw[<-hp0]at k1 hp;have hnn:0<(N.length:Int):=(by omega);obtain⟨k,hk⟩:∃k:Nat,p0%(N.length:Int)=(k:Int):=⟨(p0%(N.length:Int)).toNat,by have:=Int.emod_nonneg p0 hzI;omega⟩;have hkN:k<N.length:=by have:=Int.emod_lt_of_pos p0 hnn;omega
     have hp1:0<=p0:=hp.1;clear y_0 y_1 y_2 y_3 y_4 y_5 y_6 oN5 B5 hpl hpb hp hp0 oP hb6;obtain⟨gN,rfl,hgN1,hgN2⟩:=oN6.split hkN;have q1:w6.cell? ⟨gN,k,none⟩=some (.int .i64 N[k]):=by have:=oN6.slot aI (by decide) hkN 0 (.int .i64 N[k]) rfl;rw[Nat.mul_one]at this;exact this
     have hfr:=oN6.free;have hS:(N==N.set k (wrap64 (N[k]+1)))=false:=Rw hkN (Qz _);have oN7:=oN6.iJ aI (k:=k) (y:=wrap64 (N[k]+1)) hkN rfl;have B7:=B6.setCell (p:=⟨gN,k,none⟩) hgN1 (.int .i64 (wrap64 (N[k]+1)));obtain⟨z,hz'⟩:=R9 (N[k]);rw[<-hz']at q1 hS oN7 B7;clear hz';have hkI:(k:Int)<(N.length:Int):=(by omega);go_upto_region 12 with(fail)
     have bO7:=(bO.bl B7).n7;obtain⟨y_0,y_1,y_2,y_3,y_4,y_5,y_6⟩:=bO7;have C3:=CR _ _ _ B7 (oN7.rd aI (by decide));rw[hS]at C3;go_wp2_with fail
     refine C3.mono ?_;rintro e w8 ⟨rfl,hb8⟩;go_wp2;go_ret;exact⟨rfl,(B2.tr B7).tr hb8⟩
end Go.Proofs.YtljfoohaapckeaaGreatDoor
