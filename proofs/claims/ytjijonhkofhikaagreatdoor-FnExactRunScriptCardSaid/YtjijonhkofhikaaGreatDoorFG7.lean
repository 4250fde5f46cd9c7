import Derived.Test.YtjijonhkofhikaaGreatDoorFG5
import Derived.Test.YtjijonhkofhikaaGreatDoorFK3
open _root_.List renaming take_zero->Tm,map_map->Tn
open _root_.Nat renaming le_refl->Tp,sub_self->Tq
open _root_.Go.Lib renaming decDigits->Tt
open _root_.Array renaming length_toList->Tu
open _root_.ByteArray (empty)
open _root_.Go.Proofs.Tryz renaming results23->Tv
set_option linter.unusedVariables false
set_option linter.unusedSimpArgs false
set_option maxHeartbeats 4000000
set_option maxRecDepth 100000
namespace Go.Proofs.YtjijonhkofhikaaGreatDoor
open Go.ChangeShapes Go.WideShapes Go.ChangeAt Go.RowKit
def okb (b:UInt8):Bool:=decide (32<=b.toNat)&&decide (b.toNat<=126)
def dK (s:ByteArray):Bool:=decide (s.size<=600)&&s.data.toList.all okb&&decide ((fg [] s.data.toList).length<=24)
def eH (s:ByteArray):List ByteArray:=(fg [] s.data.toList).map toB
def SpS (s:ByteArray) (k b:Nat) (out:List ByteArray):Prop:=out.map (fun x=>x.data.toList)++fg ((s.data.toList.drop b).take (k-b)) (s.data.toList.drop k)=fg [] s.data.toList/\b<=k/\out.length<=k
theorem ext_list (s:ByteArray) (b k:Nat):(s.extract b k).data.toList=(s.data.toList.drop b).take (k-b):=by
 rw[ByteArray.data_extract,Array.toList_extract,List.extract_eq_take_drop]
theorem J3 (s:ByteArray):SpS s 0 0 []:=⟨by simp,Tp _,Tp _⟩
theorem OI (s:ByteArray) {k:Nat} (h:k<s.size):∃h':k<s.data.toList.length,s.data.toList[k]=s[k]:=⟨by rw[Tu];exact h,rfl⟩
theorem Mm {s:ByteArray} {k b:Nat} {out:List ByteArray} (hk:k<s.size) (hc:s[k].toNat≠32) (h:SpS s k b out):SpS s (k+1) b out:=by
 obtain⟨h1,h2,h3⟩:=h;obtain⟨a6,e⟩:=OI s hk;refine⟨?_,by omega,by omega⟩;rw[<-h1,List.drop_eq_getElem_cons a6,fg,if_neg (by rw[e];intro q;apply hc;rw[q];rfl)];congr 2
 have:(s.data.toList.drop b).take (k+1-b)=(s.data.toList.drop b).take (k-b)++[s.data.toList[k]]:=by
  rw[show k+1-b=k-b+1 by omega,List.take_add_one,List.getElem?_drop,show b+(k-b)=k by omega,List.getElem?_eq_getElem a6];rfl
 exact this
theorem Qt {s:ByteArray} {k b:Nat} (hk:k<=s.size) (hb:b<k):(s.data.toList.drop b).take (k-b)≠[]:=by
 intro h;have:=congrArg List.length h;rw[List.length_take,List.length_drop,Tu]at this;have e:s.data.size=s.size:=rfl;simp at this;omega
theorem Qv {s:ByteArray} {k b:Nat} {out:List ByteArray} (hk:k<s.size) (hc:s[k].toNat=32) (hb:b<k) (h:SpS s k b out):SpS s (k+1) (k+1) (out++[s.extract b k]):=by
 obtain⟨h1,h2,h3⟩:=h;obtain⟨a6,e⟩:=OI s hk;refine⟨?_,Tp _,by simp;omega⟩;rw[<-h1,List.drop_eq_getElem_cons a6,fg,if_pos (by rw[e];exact UInt8.toNat_inj.1 hc),if_neg (Qt (by omega) hb),List.map_append,Tq,Tm];simp[ext_list]
theorem Mo {s:ByteArray} {k b:Nat} {out:List ByteArray} (hk:k<s.size) (hc:s[k].toNat=32) (hb:b=k) (h:SpS s k b out):SpS s (k+1) (k+1) out:=by
 obtain⟨h1,h2,h3⟩:=h;obtain⟨a6,e⟩:=OI s hk;subst hb;refine⟨?_,Tp _,by omega⟩;rw[<-h1,Tq,Tq,Tm,Tm,List.drop_eq_getElem_cons a6,fg,if_pos (by rw[e];exact UInt8.toNat_inj.1 hc),if_pos rfl]
theorem E5 {out : List ByteArray} {l : List Bs} (h : out.map (fun x => x.data.toList) = l) : out = l.map toB := by
 rw[<-h,Tn];have:(toB∘fun x:ByteArray=>x.data.toList)=id:=by funext x;exact Ai x
 rw[this,List.map_id]
theorem J4 (s:ByteArray):s.data.toList.drop s.size=[]:=by
 apply List.drop_of_length_le;rw[Tu];exact Tp _
theorem Mq {s:ByteArray} {b:Nat} {out:List ByteArray} (hb:b<s.size) (h:SpS s s.size b out):out++[s.extract b s.size]=eH s:=by
 obtain⟨h1,h2,h3⟩:=h;apply E5;rw[<-h1,J4,fg,if_neg (Qt (Tp _) hb),List.map_append];simp[ext_list]
theorem Mr {s:ByteArray} {b:Nat} {out:List ByteArray} (hb:b=s.size) (h:SpS s s.size b out):out=eH s:=by
 obtain⟨h1,h2,h3⟩:=h;subst hb;apply E5;rw[<-h1,J4,Tq,Tm,fg,if_pos rfl,List.append_nil]
theorem O3 (s:ByteArray):(eH s).length=(fg [] s.data.toList).length:=by unfold eH;rw[List.length_map]
theorem FZ {s:ByteArray} (h:600<s.size):dK s=false:=by unfold dK;rw[decide_eq_false (by omega)];rfl
theorem Aj {s:ByteArray} {k:Nat} (hk:k<s.size) (h:s[k].toNat<32∨126<s[k].toNat):dK s=false:=by
 obtain⟨a6,e⟩:=OI s hk
 have:s.data.toList.all okb=false:=by
  rw[List.all_eq_false];refine⟨s.data.toList[k],List.getElem_mem a6,?_⟩;rw[e];unfold okb;simp;omega
 unfold dK;rw[this];simp
theorem BI {s:ByteArray} {k:Nat} (hk:k<s.size) (h:32<=s[k].toNat/\s[k].toNat<=126) (e:(s.data.toList.take k).all okb=true):(s.data.toList.take (k+1)).all okb=true:=by
 obtain⟨a6,e'⟩:=OI s hk;rw[List.take_succ_eq_append_getElem a6,List.all_append,e,e'];simp[okb,h.1,h.2]
theorem J5 {s:ByteArray} (h6:s.size<=600) (e:(s.data.toList.take s.size).all okb=true):dK s=decide ((eH s).length<=24):=by
 rw[List.take_of_length_le (by rw[Tu];exact Tp _)]at e;unfold dK;rw[decide_eq_true h6,e,O3];rfl
def IX (s:ByteArray) (w:World) (e:Ending) (w':World):Prop:=∃v,e= .returned (.tuple #[v,.bool (dK s)])/\(dK s=true->aD 9 1 fJ w.heap.size w' v (eH s))/\Below w.heap.size w w'
theorem vT {s:ByteArray} {w w':World} {v:Value} (h:dK s=false) (hb:Below w.heap.size w w'):IX s w (.returned (.tuple #[v,.bool false])) w':=⟨v,by rw[h],fun q=>(by rw[h]at q;cases q),hb⟩
theorem Io {s:ByteArray} {w w':World} {v:Value} (h:dK s=true) (ho:aD 9 1 fJ w.heap.size w' v (eH s)) (hb:Below w.heap.size w w'):IX s w (.returned (.tuple #[v,.bool true])) w':=⟨v,by rw[h],fun _=>ho,hb⟩
theorem vD (s:ByteArray) (w:World):Calls Tryz.prog 23 #[.string s] w (IX s w):=by
 by_cases h6:s.size<=600
 . have a8:=eG w (E:=9) (size:=1) (enc:=fJ) w.heap.size rfl w.heap.size (Tp _);have n6:¬((600:Int)<(s.size:Int)):=(by omega);go_enter Tryz.func23,Tryz.ntmps23
   go_wp2;go_loopw [4,5,6,13] (fun s4 s5 s6 bF wr=>∃(k b:Nat) (out:List ByteArray) (D:Option Addr) (d:Nat) (f:Int) (z:Value),s6=z/\k<=s.size/\bF= .int .i64 k/\s5= .int .i64 f/\((f= -1/\b=k)∨(f=b/\b<k))/\s4= .slice D out.length d/\aD 9 1 fJ w.heap.size wr (.slice D out.length d) out/\Hid (SpS s k b out/\(s.data.toList.take k).all okb=true)/\Below w.heap.size w wr) (fun _ _ _ i _=>s.size-(intOf i).toNat)
   case atStart=>exact⟨0,0,[],_,_,-1,_,rfl,Nat.zero_le _,rfl,rfl,.inl ⟨rfl,rfl⟩,rfl,a8,Tk ⟨J3 s,rfl⟩,(Below.refl _ _).al _⟩
   case round=>
    obtain⟨k,b,out,D,d,f,z,rfl,hk,rfl,rfl,hf,rfl,hown,Hg,a6⟩:=hrel;clear a8;have bM:out.length<=600:=by have:=Hg.out.1.2.2;omega
    have H8:Hid ((out.length+1)*16<=140737488355328):=Tk (by omega);have HM:Hid (out.length+1<=maxLen):=Tk (by unfold maxLen;omega);by_cases hlt:k<s.size
    . have bN : (k : Int) < (s.size : Int) := by omega
      by_cases bJ:s[k].toNat<32
      . have i1 : ((s[k].toNat : Nat) : Int) < 32 := by omega
        have Hn:=Tk (Aj hlt (.inl bJ));go_wp2;refine bodyPost_ret (v:= .tuple #[.slice none 0 0,.bool false]) (by simp[results,Tv,go_sem]) rfl (vT Hn.out a6)
      . have i1 : ¬ (((s[k].toNat : Nat) : Int) < 32) := by omega
        by_cases bK:126<s[k].toNat
        . have i2 : (126 : Int) < ((s[k].toNat : Nat) : Int) := by omega
          have Hn:=Tk (Aj hlt (.inr bK));go_wp2;refine bodyPost_ret (v:= .tuple #[.slice none 0 0,.bool false]) (by simp[results,Tv,go_sem]) rfl (vT Hn.out a6)
        . have i2 : ¬ ((126 : Int) < ((s[k].toNat : Nat) : Int)) := by omega
          have Ha:=Tk (BI hlt ⟨by omega,by omega⟩ Hg.out.2);by_cases hsp:s[k].toNat=32
          . have i3 : ((s[k].toNat : Nat) : Int) = 32 := by omega
            rcases hf with⟨rfl,rfl⟩|⟨rfl,bB⟩
            . have Hs:=Tk (Mo hlt hsp rfl Hg.out.1);go_wp2;go_roundw
              case rel=>exact⟨b+1,b+1,out,D,d,-1,_,rfl,by omega,by go_num,rfl,.inl ⟨rfl,rfl⟩,rfl,hown,Tk ⟨Hs.out,Ha.out⟩,a6⟩
              case measure=>simp[intOf];omega
            . have Hs:=Tk (Qv hlt hsp bB Hg.out.1);have hb0:(0:Int)<=(b:Int):=(by omega);have bL:(b:Int)<=(k:Int):=(by omega);go_wp2_with (at_builtin;go_must (refine aF (enc:=fJ) mW eZ nM a6 hown (s.extract b k) H8.out HM.out rfl _ _ rfl rfl rfl ?_);intro v4 w4 a7 hb4 hg4 bC;obtain⟨A4,c4,rfl,bD,bE⟩:=a7.form)
              go_roundw
              case rel=>exact⟨k+1,k+1,out++[s.extract b k],A4,c4,-1,_,rfl,by omega,by go_num,rfl,.inl ⟨rfl,rfl⟩,by simp,a7,Tk ⟨Hs.out,Ha.out⟩,hb4⟩
              case measure=>simp[intOf];omega
          . have i3 : ¬ (((s[k].toNat : Nat) : Int) = 32) := by omega
            have Hs:=Tk (Mm hlt hsp Hg.out.1);rcases hf with⟨rfl,rfl⟩|⟨rfl,bB⟩
            . go_wp2;go_roundw
              case rel=>exact⟨b+1,b,out,D,d,_,_,rfl,by omega,by go_num,rfl,.inr ⟨rfl,by omega⟩,rfl,hown,Tk ⟨Hs.out,Ha.out⟩,a6⟩
              case measure=>simp[intOf];omega
            . have hb0 : ¬ ((b : Int) < 0) := by omega
              go_wp2;go_roundw
              case rel=>exact⟨k+1,b,out,D,d,_,_,rfl,by omega,by go_num,rfl,.inr ⟨rfl,by omega⟩,rfl,hown,Tk ⟨Hs.out,Ha.out⟩,a6⟩
              case measure=>simp[intOf];omega
    . obtain rfl : k = s.size := by omega
      have He:=Tk (J5 h6 Hg.out.2);rcases hf with⟨rfl,rfl⟩|⟨rfl,bB⟩
      . have hs:=Mr rfl Hg.out.1;subst hs;by_cases bA:(eH s).length<=24
        . have j1 : ¬ ((24 : Int) < ((eH s).length : Int)) := by omega
          have Hy:Hid (dK s=true):=Tk (by rw[He.out,decide_eq_true bA]);go_wp2;refine bodyPost_ret (v:= .tuple #[.slice D (eH s).length d,.bool true]) (by simp[results,Tv,go_sem]) rfl (Io Hy.out hown a6)
        . have j1 : (24 : Int) < ((eH s).length : Int) := by omega
          have Hn:Hid (dK s=false):=Tk (by rw[He.out,decide_eq_false bA]);go_wp2;refine bodyPost_ret (v:= .tuple #[.slice none 0 0,.bool false]) (by simp[results,Tv,go_sem]) rfl (vT Hn.out a6)
      . have hs:=Mq bB Hg.out.1;have Hs:=Tk hs;clear hs;have hb0:(0:Int)<=(b:Int):=(by omega);have bL:(b:Int)<=(s.size:Int):=(by omega);by_cases bA:(eH s).length<=24
        . have j1 : ¬ ((24 : Int) < ((eH s).length : Int)) := by omega
          have Hy:Hid (dK s=true):=Tk (by rw[He.out,decide_eq_true bA]);go_wp2_with (at_builtin;go_must (refine aF (enc:=fJ) mW eZ nM a6 hown (s.extract b s.size) H8.out HM.out rfl _ _ rfl rfl rfl ?_);rw[Hs.out];intro v4 w4 a7 hb4 hg4 bC;obtain⟨A4,c4,rfl,bD,bE⟩:=a7.form)
          refine bodyPost_ret (v:= .tuple #[.slice A4 (eH s).length c4,.bool true]) (by simp[results,Tv,go_sem]) rfl (Io Hy.out a7 hb4)
        . have j1 : (24 : Int) < ((eH s).length : Int) := by omega
          have Hn:Hid (dK s=false):=Tk (by rw[He.out,decide_eq_false bA]);go_wp2_with (at_builtin;go_must (refine aF (enc:=fJ) mW eZ nM a6 hown (s.extract b s.size) H8.out HM.out rfl _ _ rfl rfl rfl ?_);rw[Hs.out];intro v4 w4 a7 hb4 hg4 bC;obtain⟨A4,c4,rfl,bD,bE⟩:=a7.form)
          refine bodyPost_ret (v:= .tuple #[.slice none 0 0,.bool false]) (by simp[results,Tv,go_sem]) rfl (vT Hn.out hb4)
 . have n6 : (600 : Int) < (s.size : Int) := by omega
   have Hn:=Tk (FZ (s:=s) (by omega));go_enter Tryz.func23,Tryz.ntmps23
   go_wp2;refine bodyPost_ret (v:= .tuple #[.slice none 0 0,.bool false]) (by simp[results,Tv,go_sem]) rfl (vT Hn.out (Below.refl _ _))
end Go.Proofs.YtjijonhkofhikaaGreatDoor
namespace Go.Proofs.YtjijonhkofhikaaGreatDoor
open Go.RowKit
abbrev F3:=Int×Int×Int
def rT (F:List ByteArray):ByteArray:=toB (Lib.join (F.map fun x=>x.data.toList) [32])
def Q6 (F:List ByteArray):Prop:=∀x∈F.map (fun x=>x.data.toList),x≠[]/\xU x
def Cw (F:List ByteArray) (x:F3):Prop:=jW x.1 x.2.1 x.2.2=true/\sV x.1 x.2.1 x.2.2=rT F
theorem Q7 (F : List ByteArray) : (F.map fun x => x.data.toList).map toB = F := by
 rw[Tn];conv=>rhs;rw[<-List.map_id F]
 exact List.map_congr_left fun x _=>Ai x
theorem xW (s:ByteArray):Q6 (eH s):=by
 intro x hx
 have e : (eH s).map (fun x => x.data.toList) = fg [] s.data.toList := by
  unfold eH;rw[Tn];conv=>rhs;rw[<-List.map_id (fg [] s.data.toList)]
  exact List.map_congr_left fun x _=>rD x
 rw[e]at hx;exact IQ _ _ (fun _ h=>by cases h) x hx
theorem BJ {F:List ByteArray} {x:F3} (hw:Q6 F) (h:Cw F x):F=(KW x.1 x.2.1 x.2.2).map toB:=by
 have:=EY h.1 hw h.2;rw[<-this,Q7]
theorem Nv {F:List ByteArray} {x y:F3} (hw:Q6 F) (h:Cw F x) (h':Cw F y):x=y:=by
 have h1:=EY h.1 hw h.2;have h2:=EY h'.1 hw h'.2;obtain⟨a,b,c⟩:=OY h.1 h'.1 (h1.symm.trans h2);obtain⟨x1,x2,x3⟩:=x;obtain⟨y1,y2,y3⟩:=y;simp only at a b c;subst a;subst b;subst c;rfl
open Classical in
noncomputable def paX (s:ByteArray):F3:=if h:dK s=true/\(eH s).length<=3/\∃x,Cw (eH s) x then h.2.2.choose else(0,0,0)
open Classical in
noncomputable def paB (s:ByteArray):Bool:=decide (dK s=true/\(eH s).length<=3/\∃x,Cw (eH s) x)
theorem Qw {s:ByteArray} {x:F3} (h1:dK s=true) (h2:(eH s).length<=3) (h:Cw (eH s) x):paX s=x/\paB s=true:=by
 have hx:dK s=true/\(eH s).length<=3/\∃x,Cw (eH s) x:=⟨h1,h2,x,h⟩;refine⟨?_,?_⟩
 . unfold paX;rw[dif_pos hx];exact Nv (xW s) hx.2.2.choose_spec h
 . unfold paB;simp only[decide_eq_true_eq];exact hx
theorem IY {s:ByteArray} (h:¬(dK s=true/\(eH s).length<=3/\∃x,Cw (eH s) x)):paX s=(0,0,0)/\paB s=false:=by
 refine⟨?_,?_⟩
 . unfold paX;rw[dif_neg h]
 . unfold paB;simp only[decide_eq_false_iff_not];exact h
def sW (x:ByteArray):Int:=if x=mF then 1 else if x=jB then 2 else if x=tJ then 3 else if x=nI then 4 else if x=kD then 5 else 0
def nth (F:List ByteArray) (i:Nat):ByteArray:=F.getD i empty
noncomputable def l40 (s:ByteArray):Int:=if h:1<s.size then(if s[0].toNat=45 then-puN (s.extract 1 s.size)else puN s)else puN s
theorem KY (n:Int):iJ n≠empty:=by
 intro h;have:=congrArg (fun x:ByteArray=>x.data.toList) h;exact IU n.toNat (by simpa[iJ]using this)
theorem pW:puN empty=0/\puB empty=false:=Dz fun n _ _ e=>KY n e
theorem pI:l40 empty=0:=by
 unfold l40;rw[dif_neg (by decide)];exact pW.1
theorem CQ {a:Int} (h0:0<=a) (h1:a<=1000000000):puN (toB (Tt a.toNat))=a/\puB (toB (Tt a.toNat))=true:=IW h0 h1 rfl
theorem DI {a:Int} (h0:0<=a) (h1:a<=1000000000):l40 (toB (Tt a.toNat))=a:=by
 unfold l40;split
 . rename_i h;have hl:0<(Tt a.toNat).length:=List.length_pos_iff.2 (IU _);have h3:=uZ a.toNat _ (List.getElem_mem hl)
   have h4:¬((toB (Tt a.toNat))[0].toNat=45):=by
    have h5:48<=(toB (Tt a.toNat))[0].toNat:=h3.1;omega
   split
   . rename_i h6;exact absurd h6 h4
   . exact(CQ h0 h1).1
 . exact(CQ h0 h1).1
structure Det (F:List ByteArray) (x:F3):Prop where
  kd:sW (nth F 0)=x.1
  ka:puN (nth F 1)=x.2.1
  kb:puN (nth F 2)=x.2.2
  ha:l40 (nth F 1)=x.2.1
  hb:l40 (nth F 2)=x.2.2
  al:∀i,0<i->i<F.length->puB (nth F i)=true
  in1:1<=x.1/\x.1<=5
theorem Q8:sW jB=2:=by
 unfold sW;rw[if_neg (by intro h;have:=congrArg ByteArray.size h;exact absurd this (by decide)),if_pos rfl]
theorem Q9:sW tJ=3:=by
 unfold sW;rw[if_neg (by intro h;have:=congrArg ByteArray.size h;exact absurd this (by decide)),if_neg (by intro h;have:=congrArg ByteArray.size h;exact absurd this (by decide)),if_pos rfl]
theorem OJ {x y:ByteArray} (h:x.data.toList≠y.data.toList):x≠y:=fun e=>h (by rw[e])
theorem Ra:sW nI=4:=by
 unfold sW;rw[if_neg (OJ (by decide)),if_neg (OJ (by decide)),if_neg (OJ (by decide)),if_pos rfl]
theorem Rb:sW kD=5:=by
 unfold sW;rw[if_neg (OJ (by decide)),if_neg (OJ (by decide)),if_neg (OJ (by decide)),if_neg (OJ (by decide)),if_pos rfl]
theorem Ip {F:List ByteArray} {x:F3} (hw:Q6 F) (h:Cw F x):Det F x:=by
 have hF:=BJ hw h;obtain⟨k,a,b⟩:=x;have a6:=h.1;simp only at a6 hF;have two:∀i:Nat,0<i->i<3->i=1∨i=2:=(by omega);rcases mY a6 with⟨rfl,q1,q2,q3,q4⟩|⟨rfl,q1,q2,rfl⟩|⟨rfl,q1,q2,rfl⟩|⟨rfl,rfl,rfl⟩|⟨rfl,rfl,rfl⟩
 . have e:F=[mF,toB (Tt a.toNat),toB (Tt b.toNat)]:=hF;subst e;have pa:=CQ q1 (by omega);have pb:=CQ q3 (by omega);refine⟨by show sW mF=1;unfold sW;rw[if_pos rfl],pa.1,pb.1,DI q1 (by omega),DI q3 (by omega),fun i h0 h1=> ?_,⟨by show(1:Int)<=_;omega,by show _<=(5:Int);omega⟩⟩;rcases two i h0 h1 with rfl|rfl
   . exact pa.2
   . exact pb.2
 . have e:F=[jB,toB (Tt a.toNat)]:=hF;subst e;have pa:=CQ q1 (by omega);refine⟨Q8,pa.1,pW.1,DI q1 (by omega),pI,fun i h0 h1=> ?_,⟨by show(1:Int)<=_;omega,by show _<=(5:Int);omega⟩⟩;obtain rfl:i=1:=by simp at h1;omega
   exact pa.2
 . have e:F=[tJ,toB (Tt a.toNat)]:=hF;subst e;have pa:=CQ (a:=a) (by omega) (by omega);refine⟨Q9,pa.1,pW.1,DI (by omega) (by omega),pI,fun i h0 h1=> ?_,⟨by show(1:Int)<=_;omega,by show _<=(5:Int);omega⟩⟩;obtain rfl:i=1:=by simp at h1;omega
   exact pa.2
 . have e:F=[nI]:=hF;subst e;exact⟨Ra,pW.1,pW.1,pI,pI,fun i h0 h1=>by simp at h1;omega,by decide⟩
 . have e:F=[kD]:=hF;subst e;exact⟨Rb,pW.1,pW.1,pI,pI,fun i h0 h1=>by simp at h1;omega,by decide⟩
end Go.Proofs.YtjijonhkofhikaaGreatDoor
