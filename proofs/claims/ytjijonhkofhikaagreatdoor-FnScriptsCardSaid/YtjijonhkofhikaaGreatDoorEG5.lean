import Derived.Test.YtjijonhkofhikaaGreatDoorEG3
import Derived.Test.YtjijonhkofhikaaGreatDoorEK3
open _root_.List renaming take_zero->TZ,map_map->T9,getElem_mem->Ua,all_append->Ub
open _root_.Nat renaming le_refl->Uc,sub_self->Ud,zero_le->Ue
open _root_.Go.Lib renaming decDigits->Uf,joinTail->Ug
open _root_.Array renaming length_toList->Uh
open _root_.ByteArray (empty)
open _root_.ByteArray renaming size_append->Ui
open _root_.Go.Proofs.Tryz renaming results23->Uj,results7->Uk
set_option linter.unusedVariables false
set_option linter.unusedSimpArgs false
set_option maxHeartbeats 4000000
set_option maxRecDepth 100000
namespace Go.Proofs.YtjijonhkofhikaaGreatDoor
open Go.ChangeShapes Go.WideShapes Go.ChangeAt Go.RowKit
def okb (b:UInt8):Bool:=decide (32<=b.toNat)&&decide (b.toNat<=126)
def fA (s:ByteArray):Bool:=decide (s.size<=600)&&s.data.toList.all okb&&decide ((fg [] s.data.toList).length<=24)
def jF (s:ByteArray):List ByteArray:=(fg [] s.data.toList).map toB
def SpS (s:ByteArray) (k b:Nat) (out:List ByteArray):Prop:=out.map (fun x=>x.data.toList)++fg ((s.data.toList.drop b).take (k-b)) (s.data.toList.drop k)=fg [] s.data.toList/\b<=k/\out.length<=k
theorem ext_list (s:ByteArray) (b k:Nat):(s.extract b k).data.toList=(s.data.toList.drop b).take (k-b):=by
 rw[ByteArray.data_extract,Array.toList_extract,List.extract_eq_take_drop]
theorem O8 (s:ByteArray):SpS s 0 0 []:=⟨by simp,Uc _,Uc _⟩
theorem Ri (s:ByteArray) {k:Nat} (h:k<s.size):∃h':k<s.data.toList.length,s.data.toList[k]=s[k]:=⟨by rw[Uh];exact h,rfl⟩
theorem Rj {s:ByteArray} {k b:Nat} {out:List ByteArray} (hk:k<s.size) (hc:s[k].toNat≠32) (h:SpS s k b out):SpS s (k+1) b out:=by
 obtain⟨h1,h2,h3⟩:=h;obtain⟨a6,e⟩:=Ri s hk;refine⟨?_,by omega,by omega⟩;rw[<-h1,List.drop_eq_getElem_cons a6,fg,if_neg (by rw[e];intro q;apply hc;rw[q];rfl)];congr 2
 have:(s.data.toList.drop b).take (k+1-b)=(s.data.toList.drop b).take (k-b)++[s.data.toList[k]]:=by
  rw[show k+1-b=k-b+1 by omega,List.take_add_one,List.getElem?_drop,show b+(k-b)=k by omega,List.getElem?_eq_getElem a6];rfl
 exact this
theorem QH {s:ByteArray} {k b:Nat} (hk:k<=s.size) (hb:b<k):(s.data.toList.drop b).take (k-b)≠[]:=by
 intro h;have:=congrArg List.length h;rw[List.length_take,List.length_drop,Uh]at this;have e:s.data.size=s.size:=rfl;simp at this;omega
theorem SS {s:ByteArray} {k b:Nat} {out:List ByteArray} (hk:k<s.size) (hc:s[k].toNat=32) (hb:b<k) (h:SpS s k b out):SpS s (k+1) (k+1) (out++[s.extract b k]):=by
 obtain⟨h1,h2,h3⟩:=h;obtain⟨a6,e⟩:=Ri s hk;refine⟨?_,Uc _,by simp;omega⟩;rw[<-h1,List.drop_eq_getElem_cons a6,fg,if_pos (by rw[e];exact UInt8.toNat_inj.1 hc),if_neg (QH (by omega) hb),List.map_append,Ud,TZ];simp[ext_list]
theorem Rk {s:ByteArray} {k b:Nat} {out:List ByteArray} (hk:k<s.size) (hc:s[k].toNat=32) (hb:b=k) (h:SpS s k b out):SpS s (k+1) (k+1) out:=by
 obtain⟨h1,h2,h3⟩:=h;obtain⟨a6,e⟩:=Ri s hk;subst hb;refine⟨?_,Uc _,by omega⟩;rw[<-h1,Ud,Ud,TZ,TZ,List.drop_eq_getElem_cons a6,fg,if_pos (by rw[e];exact UInt8.toNat_inj.1 hc),if_pos rfl]
theorem Fh {out : List ByteArray} {l : List Bs} (h : out.map (fun x => x.data.toList) = l) : out = l.map toB := by
 rw[<-h,T9];have:(toB∘fun x:ByteArray=>x.data.toList)=id:=by funext x;exact Fb x
 rw[this,List.map_id]
theorem Kg (s:ByteArray):s.data.toList.drop s.size=[]:=by
 apply List.drop_of_length_le;rw[Uh];exact Uc _
theorem Rl {s:ByteArray} {b:Nat} {out:List ByteArray} (hb:b<s.size) (h:SpS s s.size b out):out++[s.extract b s.size]=jF s:=by
 obtain⟨h1,h2,h3⟩:=h;apply Fh;rw[<-h1,Kg,fg,if_neg (QH (Uc _) hb),List.map_append];simp[ext_list]
theorem Rm {s:ByteArray} {b:Nat} {out:List ByteArray} (hb:b=s.size) (h:SpS s s.size b out):out=jF s:=by
 obtain⟨h1,h2,h3⟩:=h;subst hb;apply Fh;rw[<-h1,Kg,Ud,TZ,fg,if_pos rfl,List.append_nil]
theorem Fj (s:ByteArray):(jF s).length=(fg [] s.data.toList).length:=by unfold jF;rw[List.length_map]
theorem NI {s:ByteArray} (h:600<s.size):fA s=false:=by unfold fA;rw[decide_eq_false (by omega)];rfl
theorem Kh {s:ByteArray} {k:Nat} (hk:k<s.size) (h:s[k].toNat<32∨126<s[k].toNat):fA s=false:=by
 obtain⟨a6,e⟩:=Ri s hk
 have:s.data.toList.all okb=false:=by
  rw[List.all_eq_false];refine⟨s.data.toList[k],Ua a6,?_⟩;rw[e];unfold okb;simp;omega
 unfold fA;rw[this];simp
theorem JD {s:ByteArray} {k:Nat} (hk:k<s.size) (h:32<=s[k].toNat/\s[k].toNat<=126) (e:(s.data.toList.take k).all okb=true):(s.data.toList.take (k+1)).all okb=true:=by
 obtain⟨a6,e'⟩:=Ri s hk;rw[List.take_succ_eq_append_getElem a6,Ub,e,e'];simp[okb,h.1,h.2]
theorem Pb {s:ByteArray} (h6:s.size<=600) (e:(s.data.toList.take s.size).all okb=true):fA s=decide ((jF s).length<=24):=by
 rw[List.take_of_length_le (by rw[Uh];exact Uc _)]at e;unfold fA;rw[decide_eq_true h6,e,Fj];rfl
def Mm (s:ByteArray) (w:World) (e:Ending) (w':World):Prop:=∃v,e= .returned (.tuple #[v,.bool (fA s)])/\(fA s=true->aD 9 1 iX w.heap.size w' v (jF s))/\Below w.heap.size w w'
theorem FM {s:ByteArray} {w w':World} {v:Value} (h:fA s=false) (hb:Below w.heap.size w w'):Mm s w (.returned (.tuple #[v,.bool false])) w':=⟨v,by rw[h],fun q=>(by rw[h]at q;cases q),hb⟩
theorem MJ {s:ByteArray} {w w':World} {v:Value} (h:fA s=true) (ho:aD 9 1 iX w.heap.size w' v (jF s)) (hb:Below w.heap.size w w'):Mm s w (.returned (.tuple #[v,.bool true])) w':=⟨v,by rw[h],fun _=>ho,hb⟩
theorem uZ (s:ByteArray) (w:World):Calls Tryz.prog 23 #[.string s] w (Mm s w):=by
 by_cases h6:s.size<=600
 . have a8:=fI w (E:=9) (size:=1) (enc:=iX) w.heap.size rfl w.heap.size (Uc _);have n6:¬((600:Int)<(s.size:Int)):=(by omega);go_enter Tryz.func23,Tryz.ntmps23
   go_wp2;go_loopw [4,5,6,13] (fun s4 s5 s6 bF wr=>∃(k b:Nat) (out:List ByteArray) (D:Option Addr) (d:Nat) (f:Int) (z:Value),s6=z/\k<=s.size/\bF= .int .i64 k/\s5= .int .i64 f/\((f= -1/\b=k)∨(f=b/\b<k))/\s4= .slice D out.length d/\aD 9 1 iX w.heap.size wr (.slice D out.length d) out/\Hid (SpS s k b out/\(s.data.toList.take k).all okb=true)/\Below w.heap.size w wr) (fun _ _ _ i _=>s.size-(intOf i).toNat)
   case atStart=>exact⟨0,0,[],_,_,-1,_,rfl,Ue _,rfl,rfl,.inl ⟨rfl,rfl⟩,rfl,a8,TY ⟨O8 s,rfl⟩,(Below.refl _ _).al _⟩
   case round=>
    obtain⟨k,b,out,D,d,f,z,rfl,hk,rfl,rfl,hf,rfl,hown,Hg,a6⟩:=hrel;clear a8;have bN:out.length<=600:=by have:=Hg.out.1.2.2;omega
    have H8:Hid ((out.length+1)*16<=140737488355328):=TY (by omega);have HM:Hid (out.length+1<=maxLen):=TY (by unfold maxLen;omega);by_cases hlt:k<s.size
    . have bO : (k : Int) < (s.size : Int) := by omega
      by_cases bJ:s[k].toNat<32
      . have i1 : ((s[k].toNat : Nat) : Int) < 32 := by omega
        have Hn:=TY (Kh hlt (.inl bJ));go_wp2;refine bodyPost_ret (v:= .tuple #[.slice none 0 0,.bool false]) (by simp[results,Uj,go_sem]) rfl (FM Hn.out a6)
      . have i1 : ¬ (((s[k].toNat : Nat) : Int) < 32) := by omega
        by_cases bK:126<s[k].toNat
        . have i2 : (126 : Int) < ((s[k].toNat : Nat) : Int) := by omega
          have Hn:=TY (Kh hlt (.inr bK));go_wp2;refine bodyPost_ret (v:= .tuple #[.slice none 0 0,.bool false]) (by simp[results,Uj,go_sem]) rfl (FM Hn.out a6)
        . have i2 : ¬ ((126 : Int) < ((s[k].toNat : Nat) : Int)) := by omega
          have Ha:=TY (JD hlt ⟨by omega,by omega⟩ Hg.out.2);by_cases hsp:s[k].toNat=32
          . have i3 : ((s[k].toNat : Nat) : Int) = 32 := by omega
            rcases hf with⟨rfl,rfl⟩|⟨rfl,bB⟩
            . have Hs:=TY (Rk hlt hsp rfl Hg.out.1);go_wp2;go_roundw
              case rel=>exact⟨b+1,b+1,out,D,d,-1,_,rfl,by omega,by go_num,rfl,.inl ⟨rfl,rfl⟩,rfl,hown,TY ⟨Hs.out,Ha.out⟩,a6⟩
              case measure=>simp[intOf];omega
            . have Hs:=TY (SS hlt hsp bB Hg.out.1);have hb0:(0:Int)<=(b:Int):=(by omega);have bL:(b:Int)<=(k:Int):=(by omega);go_wp2_with (at_builtin;go_must (refine aF (enc:=iX) qG jA sF a6 hown (s.extract b k) H8.out HM.out rfl _ _ rfl rfl rfl ?_);intro v4 w4 a7 hb4 hg4 bC;obtain⟨A4,c4,rfl,bD,bE⟩:=a7.form)
              go_roundw
              case rel=>exact⟨k+1,k+1,out++[s.extract b k],A4,c4,-1,_,rfl,by omega,by go_num,rfl,.inl ⟨rfl,rfl⟩,by simp,a7,TY ⟨Hs.out,Ha.out⟩,hb4⟩
              case measure=>simp[intOf];omega
          . have i3 : ¬ (((s[k].toNat : Nat) : Int) = 32) := by omega
            have Hs:=TY (Rj hlt hsp Hg.out.1);rcases hf with⟨rfl,rfl⟩|⟨rfl,bB⟩
            . go_wp2;go_roundw
              case rel=>exact⟨b+1,b,out,D,d,_,_,rfl,by omega,by go_num,rfl,.inr ⟨rfl,by omega⟩,rfl,hown,TY ⟨Hs.out,Ha.out⟩,a6⟩
              case measure=>simp[intOf];omega
            . have hb0 : ¬ ((b : Int) < 0) := by omega
              go_wp2;go_roundw
              case rel=>exact⟨k+1,b,out,D,d,_,_,rfl,by omega,by go_num,rfl,.inr ⟨rfl,by omega⟩,rfl,hown,TY ⟨Hs.out,Ha.out⟩,a6⟩
              case measure=>simp[intOf];omega
    . obtain rfl : k = s.size := by omega
      have He:=TY (Pb h6 Hg.out.2);rcases hf with⟨rfl,rfl⟩|⟨rfl,bB⟩
      . have hs:=Rm rfl Hg.out.1;subst hs;by_cases bA:(jF s).length<=24
        . have j1 : ¬ ((24 : Int) < ((jF s).length : Int)) := by omega
          have Hy:Hid (fA s=true):=TY (by rw[He.out,decide_eq_true bA]);go_wp2;refine bodyPost_ret (v:= .tuple #[.slice D (jF s).length d,.bool true]) (by simp[results,Uj,go_sem]) rfl (MJ Hy.out hown a6)
        . have j1 : (24 : Int) < ((jF s).length : Int) := by omega
          have Hn:Hid (fA s=false):=TY (by rw[He.out,decide_eq_false bA]);go_wp2;refine bodyPost_ret (v:= .tuple #[.slice none 0 0,.bool false]) (by simp[results,Uj,go_sem]) rfl (FM Hn.out a6)
      . have hs:=Rl bB Hg.out.1;have Hs:=TY hs;clear hs;have hb0:(0:Int)<=(b:Int):=(by omega);have bL:(b:Int)<=(s.size:Int):=(by omega);by_cases bA:(jF s).length<=24
        . have j1 : ¬ ((24 : Int) < ((jF s).length : Int)) := by omega
          have Hy:Hid (fA s=true):=TY (by rw[He.out,decide_eq_true bA]);go_wp2_with (at_builtin;go_must (refine aF (enc:=iX) qG jA sF a6 hown (s.extract b s.size) H8.out HM.out rfl _ _ rfl rfl rfl ?_);rw[Hs.out];intro v4 w4 a7 hb4 hg4 bC;obtain⟨A4,c4,rfl,bD,bE⟩:=a7.form)
          refine bodyPost_ret (v:= .tuple #[.slice A4 (jF s).length c4,.bool true]) (by simp[results,Uj,go_sem]) rfl (MJ Hy.out a7 hb4)
        . have j1 : (24 : Int) < ((jF s).length : Int) := by omega
          have Hn:Hid (fA s=false):=TY (by rw[He.out,decide_eq_false bA]);go_wp2_with (at_builtin;go_must (refine aF (enc:=iX) qG jA sF a6 hown (s.extract b s.size) H8.out HM.out rfl _ _ rfl rfl rfl ?_);rw[Hs.out];intro v4 w4 a7 hb4 hg4 bC;obtain⟨A4,c4,rfl,bD,bE⟩:=a7.form)
          refine bodyPost_ret (v:= .tuple #[.slice none 0 0,.bool false]) (by simp[results,Uj,go_sem]) rfl (FM Hn.out hb4)
 . have n6 : (600 : Int) < (s.size : Int) := by omega
   have Hn:=TY (NI (s:=s) (by omega));go_enter Tryz.func23,Tryz.ntmps23
   go_wp2;refine bodyPost_ret (v:= .tuple #[.slice none 0 0,.bool false]) (by simp[results,Uj,go_sem]) rfl (FM Hn.out (Below.refl _ _))
end Go.Proofs.YtjijonhkofhikaaGreatDoor
namespace Go.Proofs.YtjijonhkofhikaaGreatDoor
open Go.RowKit
abbrev F3:=Int×Int×Int
def Jc (F:List ByteArray):ByteArray:=toB (Lib.join (F.map fun x=>x.data.toList) [32])
def Rn (F:List ByteArray):Prop:=∀x∈F.map (fun x=>x.data.toList),x≠[]/\xS x
def CV (F:List ByteArray) (x:F3):Prop:=iP x.1 x.2.1 x.2.2=true/\rT x.1 x.2.1 x.2.2=Jc F
theorem Ro (F : List ByteArray) : (F.map fun x => x.data.toList).map toB = F := by
 rw[T9];conv=>rhs;rw[<-List.map_id F]
 exact List.map_congr_left fun x _=>Fb x
theorem AV (s:ByteArray):Rn (jF s):=by
 intro x hx
 have e : (jF s).map (fun x => x.data.toList) = fg [] s.data.toList := by
  unfold jF;rw[T9];conv=>rhs;rw[<-List.map_id (fg [] s.data.toList)]
  exact List.map_congr_left fun x _=>wQ x
 rw[e]at hx;exact Ja _ _ (fun _ h=>by cases h) x hx
theorem BZ {F:List ByteArray} {x:F3} (hw:Rn F) (h:CV F x):F=(uX x.1 x.2.1 x.2.2).map toB:=by
 have:=Fe h.1 hw h.2;rw[<-this,Ro]
theorem NJ {F:List ByteArray} {x y:F3} (hw:Rn F) (h:CV F x) (h':CV F y):x=y:=by
 have h1:=Fe h.1 hw h.2;have h2:=Fe h'.1 hw h'.2;obtain⟨a,b,c⟩:=O5 h.1 h'.1 (h1.symm.trans h2);obtain⟨x1,x2,x3⟩:=x;obtain⟨y1,y2,y3⟩:=y;simp only at a b c;subst a;subst b;subst c;rfl
open Classical in
noncomputable def paX (s:ByteArray):F3:=if h:fA s=true/\(jF s).length<=3/\∃x,CV (jF s) x then h.2.2.choose else(0,0,0)
open Classical in
noncomputable def paB (s:ByteArray):Bool:=decide (fA s=true/\(jF s).length<=3/\∃x,CV (jF s) x)
theorem QI {s:ByteArray} {x:F3} (h1:fA s=true) (h2:(jF s).length<=3) (h:CV (jF s) x):paX s=x/\paB s=true:=by
 have hx:fA s=true/\(jF s).length<=3/\∃x,CV (jF s) x:=⟨h1,h2,x,h⟩;refine⟨?_,?_⟩
 . unfold paX;rw[dif_pos hx];exact NJ (AV s) hx.2.2.choose_spec h
 . unfold paB;simp only[decide_eq_true_eq];exact hx
theorem OH {s:ByteArray} (h:¬(fA s=true/\(jF s).length<=3/\∃x,CV (jF s) x)):paX s=(0,0,0)/\paB s=false:=by
 refine⟨?_,?_⟩
 . unfold paX;rw[dif_neg h]
 . unfold paB;simp only[decide_eq_false_iff_not];exact h
def sS (x:ByteArray):Int:=if x=nH then 1 else if x=jX then 2 else if x=wP then 3 else if x=nI then 4 else if x=jY then 5 else 0
def nth (F:List ByteArray) (i:Nat):ByteArray:=F.getD i empty
noncomputable def l40 (s:ByteArray):Int:=if h:1<s.size then(if s[0].toNat=45 then-puN (s.extract 1 s.size)else puN s)else puN s
theorem K7 (n:Int):kR n≠empty:=by
 intro h;have:=congrArg (fun x:ByteArray=>x.data.toList) h;exact Jb n.toNat (by simpa[kR]using this)
theorem pO:puN empty=0/\puB empty=false:=K6 fun n _ _ e=>K7 n e
theorem qH:l40 empty=0:=by
 unfold l40;rw[dif_neg (by decide)];exact pO.1
theorem Da {a:Int} (h0:0<=a) (h1:a<=1000000000):puN (toB (Uf a.toNat))=a/\puB (toB (Uf a.toNat))=true:=QD h0 h1 rfl
theorem Ef {a:Int} (h0:0<=a) (h1:a<=1000000000):l40 (toB (Uf a.toNat))=a:=by
 unfold l40;split
 . rename_i h;have hl:0<(Uf a.toNat).length:=List.length_pos_iff.2 (Jb _);have h3:=uW a.toNat _ (Ua hl)
   have h4:¬((toB (Uf a.toNat))[0].toNat=45):=by
    have h5:48<=(toB (Uf a.toNat))[0].toNat:=h3.1;omega
   split
   . rename_i h6;exact absurd h6 h4
   . exact(Da h0 h1).1
 . exact(Da h0 h1).1
structure Det (F:List ByteArray) (x:F3):Prop where
  kd:sS (nth F 0)=x.1
  ka:puN (nth F 1)=x.2.1
  kb:puN (nth F 2)=x.2.2
  ha:l40 (nth F 1)=x.2.1
  hb:l40 (nth F 2)=x.2.2
  al:∀i,0<i->i<F.length->puB (nth F i)=true
  in1:1<=x.1/\x.1<=5
theorem Rp:sS jX=2:=by
 unfold sS;rw[if_neg (by intro h;have:=congrArg ByteArray.size h;exact absurd this (by decide)),if_pos rfl]
theorem Rq:sS wP=3:=by
 unfold sS;rw[if_neg (by intro h;have:=congrArg ByteArray.size h;exact absurd this (by decide)),if_neg (by intro h;have:=congrArg ByteArray.size h;exact absurd this (by decide)),if_pos rfl]
theorem OO {x y:ByteArray} (h:x.data.toList≠y.data.toList):x≠y:=fun e=>h (by rw[e])
theorem Rs:sS nI=4:=by
 unfold sS;rw[if_neg (OO (by decide)),if_neg (OO (by decide)),if_neg (OO (by decide)),if_pos rfl]
theorem Rt:sS jY=5:=by
 unfold sS;rw[if_neg (OO (by decide)),if_neg (OO (by decide)),if_neg (OO (by decide)),if_neg (OO (by decide)),if_pos rfl]
theorem MK {F:List ByteArray} {x:F3} (hw:Rn F) (h:CV F x):Det F x:=by
 have hF:=BZ hw h;obtain⟨k,a,b⟩:=x;have a6:=h.1;simp only at a6 hF;have two:∀i:Nat,0<i->i<3->i=1∨i=2:=(by omega);rcases mR a6 with⟨rfl,q1,q2,q3,q4⟩|⟨rfl,q1,q2,rfl⟩|⟨rfl,q1,q2,rfl⟩|⟨rfl,rfl,rfl⟩|⟨rfl,rfl,rfl⟩
 . have e:F=[nH,toB (Uf a.toNat),toB (Uf b.toNat)]:=hF;subst e;have pa:=Da q1 (by omega);have pb:=Da q3 (by omega);refine⟨by show sS nH=1;unfold sS;rw[if_pos rfl],pa.1,pb.1,Ef q1 (by omega),Ef q3 (by omega),fun i h0 h1=> ?_,⟨by show(1:Int)<=_;omega,by show _<=(5:Int);omega⟩⟩;rcases two i h0 h1 with rfl|rfl
   . exact pa.2
   . exact pb.2
 . have e:F=[jX,toB (Uf a.toNat)]:=hF;subst e;have pa:=Da q1 (by omega);refine⟨Rp,pa.1,pO.1,Ef q1 (by omega),qH,fun i h0 h1=> ?_,⟨by show(1:Int)<=_;omega,by show _<=(5:Int);omega⟩⟩;obtain rfl:i=1:=by simp at h1;omega
   exact pa.2
 . have e:F=[wP,toB (Uf a.toNat)]:=hF;subst e;have pa:=Da (a:=a) (by omega) (by omega);refine⟨Rq,pa.1,pO.1,Ef (by omega) (by omega),qH,fun i h0 h1=> ?_,⟨by show(1:Int)<=_;omega,by show _<=(5:Int);omega⟩⟩;obtain rfl:i=1:=by simp at h1;omega
   exact pa.2
 . have e:F=[nI]:=hF;subst e;exact⟨Rs,pO.1,pO.1,qH,qH,fun i h0 h1=>by simp at h1;omega,by decide⟩
 . have e:F=[jY]:=hF;subst e;exact⟨Rt,pO.1,pO.1,qH,qH,fun i h0 h1=>by simp at h1;omega,by decide⟩
end Go.Proofs.YtjijonhkofhikaaGreatDoor
namespace Go.Proofs.YtjijonhkofhikaaGreatDoor
open Go.ChangeShapes Go.WideShapes Go.ChangeAt Go.RowKit
abbrev AcT:=Int×Int×Int
def Gl (x:AcT):Bool:=iP x.1 x.2.1 x.2.2
def yP (x:AcT):ByteArray:=iN x.1 x.2.1 x.2.2
def FN (l:List AcT):ByteArray:=l.foldl (fun s x=>s++(yP x++(⟨#[10]⟩:ByteArray))) empty
def rU (l:List AcT):Bool:=decide (l.length<=40)&&l.all Gl
def pQ (l:List AcT):ByteArray:=if rU l=true then FN l else empty
theorem La {k a b:Int} (h:iP k a b=true):(rT k a b).size<=100:=by
 have h1:nH.size=4:=rfl;have h2:jX.size=5:=rfl;have h3:wP.size=3:=rfl;have h4:nI.size=4:=rfl;have h5:jY.size=5:=rfl;rcases mR h with⟨rfl,q1,q2,q3,q4⟩|⟨rfl,q1,q2,rfl⟩|⟨rfl,q1,q2,rfl⟩|⟨rfl,rfl,rfl⟩|⟨rfl,rfl,rfl⟩
 . have:=qU [a,b] nH (by simp;omega);simp[rT]at this⊢;omega
 . have:=qU [a] jX (by simp;omega);simp[rT]at this⊢;omega
 . have:=qU [a] wP (by simp;omega);simp[rT]at this⊢;omega
 . simp[rT];omega
 . simp[rT];omega
theorem uJ (k a b:Int):(iN k a b).size<=100:=by
 unfold iN;split
 . rename_i h;exact La h
 . exact Ue _
theorem Gm {l:List AcT} {j:Nat} (h:j<l.length):FN (l.take j)++(yP l[j]++(⟨#[10]⟩:ByteArray))=FN (l.take (j+1)):=by
 unfold FN;rw[List.take_succ_eq_append_getElem h,List.foldl_append];rfl
theorem Bq (l:List AcT):∀j,j<=l.length->(FN (l.take j)).size<=101*j
  |0,_=>Ue _
  | j + 1, h => by
   have ih:=Bq l j (by omega);rw[<-Gm (by omega:j<l.length),Ui,Ui];have h2:=uJ (l[j]).1 (l[j]).2.1 (l[j]).2.2;have h3:(⟨#[10]⟩:ByteArray).size=1:=rfl;unfold yP;omega
theorem FO {l:List AcT} {j:Nat} (h:j<l.length) (e:(l.take j).all Gl=true) (e2:Gl l[j]=true):(l.take (j+1)).all Gl=true:=by
 rw[List.take_succ_eq_append_getElem h,Ub,e];simp[e2]
theorem SV {l:List AcT} {j:Nat} (h:j<l.length) (e:Gl l[j]=false):rU l=false:=by
 unfold rU
 have:l.all Gl=false:=by
  rw[List.all_eq_false];exact⟨l[j],Ua h,by simp[e]⟩
 rw[this,Bool.and_false]
theorem Ru {l:List AcT} (h:l.length<=40) (e:(l.take l.length).all Gl=true):rU l=true/\pQ l=FN (l.take l.length):=by
 rw[List.take_length]at e⊢;have:rU l=true:=by unfold rU;rw[e];simp[h]
 exact⟨this,by unfold pQ;rw[if_pos this]⟩
theorem JE (v:Value) (l:List AcT) (w:World) (h:Rd 3 (RE pK) w v l) (ht:Tab w):Calls Tryz.prog 7 #[v] w (Ret (.tuple #[.string (pQ l),.bool (rU l)]) w):=by
 obtain⟨A,c,rfl,hc,hm⟩:=h.form;have HT:=TY ht;clear ht;have hno:rU l=false->(Value.tuple #[.string (⟨#[]⟩:ByteArray),.bool false])= .tuple #[.string (pQ l),.bool (rU l)]:=fun e=>by unfold pQ;rw[e];rfl
 by_cases bB:l.length<=40
 . have bA : ¬ ((40 : Int) < (l.length : Int)) := by omega
   have bC:=TY hno;clear hno;go_enter Tryz.func7,Tryz.ntmps7
   go_wp2;go_loopw [4,14] (fun s4 i wr=>∃k:Nat,k<=l.length/\i= .int .i64 k/\s4= .string (FN (l.take k))/\Hid ((l.take k).all Gl=true)/\Below w.heap.size w wr) (fun _ i _=>l.length-(intOf i).toNat)
   case atStart=>exact⟨0,Ue _,rfl,rfl,TY rfl,Below.refl _ _⟩
   case round=>
    obtain⟨k,hk,rfl,rfl,Hg,a6⟩:=hrel;by_cases hlt:k<l.length
    . obtain⟨b,off,rfl,hb,k0,k1,k2⟩:=(h.TW a6).QB hlt;have hs1:=Bq l k hk;have hst:=Gm hlt;have hz:=uJ (l[k]).1 (l[k]).2.1 (l[k]).2.2;obtain⟨x,hx⟩:=TV (l[k]);rw[<-hx]at k0 k1 k2 hst hz;obtain⟨x0,x1,x2⟩:=x;simp only at k0 k1 k2 hz;obtain⟨S,hS⟩:=TV (FN (l.take k));rw[<-hS]at hs1 hst⊢;obtain⟨T,hT⟩:=TV (iN x0 x1 x2);obtain⟨o,ho⟩:=TV (iP x0 x1 x2);have a8:S++(T++(⟨#[10]⟩:ByteArray))=FN (l.take (k+1)):=by rw[hT];exact hst
      rw[<-hT]at hz;have bF:S.size<=4040:=(by omega);have bJ:(T++(⟨#[10]⟩:ByteArray)).size=T.size+1:=by rw[Ui];rfl
      have hall:=FO hlt Hg.out;have a7:=SV hlt;rw[<-hx]at hall a7;have cI:∀W:World,Tab W->Calls Tryz.prog 21 #[.agg #[.int .i64 x0,.int .i64 x1,.int .i64 x2]] W (Ret (.tuple #[.string T,.bool o]) W):=fun W hW=>by rw[hT,ho];exact BP x0 x1 x2 W hW
      have HI:=TY cI;have bD:=TY a8;have HX:=TY hx;have HS:=TY hS;have bK:=TY hT;have HA:Hid (o=true->(l.take (k+1)).all Gl=true):=TY (fun e=>hall (by unfold Gl;rw[<-ho];exact e));have bE:Hid (o=false->rU l=false):=TY (fun e=>a7 (by unfold Gl;rw[<-ho];exact e));clear cI hst a8 hx hS hT ho hall a7 hs1;cases o
      . have Hn:Hid (rU l=false):=TY (bE.out rfl);go_wp2_with fail
        refine(HI.out _ (HT.out.below (a6.al _))).mono ?_;rintro e w2 ⟨rfl,hb2⟩;go_wp2;refine bodyPost_ret (v:= .tuple #[.string (⟨#[]⟩:ByteArray),.bool false]) (by simp[results,Uk,go_sem]) rfl ⟨congrArg _ (bC.out Hn.out),(a6.al _).tr hb2⟩
      . have Hy:Hid ((l.take (k+1)).all Gl=true):=TY (HA.out rfl);go_wp2_with fail
        refine(HI.out _ (HT.out.below (a6.al _))).mono ?_;rintro e w2 ⟨rfl,hb2⟩;go_wp2;go_roundw
        case rel=>exact⟨k+1,by omega,by go_num,by rw[<-bD.out],Hy,(a6.al _).tr hb2⟩
        case measure=>simp[intOf];omega
    . obtain rfl : k = l.length := by omega
      have hy:=Ru bB Hg.out;have Hy:=TY hy;clear hy;go_wp2;refine bodyPost_ret (v:= .tuple #[.string (FN (l.take l.length)),.bool true]) (by simp[results,Uk,go_sem]) rfl ⟨by rw[Hy.out.1,Hy.out.2],a6⟩
 . have bA : (40 : Int) < (l.length : Int) := by omega
   have e:rU l=false:=by unfold rU;simp[bB]
   rw[<-hno e];clear hno e;go_enter Tryz.func7,Tryz.ntmps7
   go_wp2;refine bodyPost_ret (v:= .tuple #[.string (⟨#[]⟩:ByteArray),.bool false]) (by simp[results,Uk,go_sem]) rfl ⟨rfl,Below.refl _ _⟩
end Go.Proofs.YtjijonhkofhikaaGreatDoor
namespace Go.Proofs.YtjijonhkofhikaaGreatDoor
open Go.RowKit
theorem Ki:∀xs:List Bs,(∀x∈xs,x.all okb=true)->(Ug [32] xs).all okb=true
  |[],_=>rfl
  | y :: xs, h => by
   have e:Ug [32] (y::xs)=32::(y++Ug [32] xs):=(by simp[Ug]);rw[e,List.all_cons,Ub,h y List.mem_cons_self,Ki xs (fun x hx=>h x (List.mem_cons_of_mem _ hx))];decide
theorem ML (u:Nat):(Uf u).all okb=true:=by
 rw[List.all_eq_true];intro b hb;have:=uW u b hb;unfold okb;simp;omega
theorem Pd (k a b:Int):∀x∈uX k a b,x.all okb=true:=by
 have w1:nH.data.toList.all okb=true:=(by decide);have w2:jX.data.toList.all okb=true:=(by decide);have w3:wP.data.toList.all okb=true:=(by decide);have w4:nI.data.toList.all okb=true:=(by decide);have w5:jY.data.toList.all okb=true:=(by decide);have da:=ML a.toNat;have db:=ML b.toNat;intro x hx;unfold uX at hx;repeat' split at hx
 all_goals simp only[List.mem_cons,List.not_mem_nil,or_false]at hx
 . rcases hx with rfl|rfl|rfl
   . exact w1
   . exact da
   . exact db
 . rcases hx with rfl|rfl
   . exact w2
   . exact da
 . rcases hx with rfl|rfl
   . exact w3
   . exact da
 . subst hx;exact w4
 . subst hx;exact w5
theorem Pe (k a b:Int):(uX k a b).length<=3:=by
 unfold uX;by_cases h1:k=1
 . rw[if_pos h1];exact Uc 3
 . rw[if_neg h1];by_cases h2:k=2
   . rw[if_pos h2];exact(by decide:2<=3)
   . rw[if_neg h2];by_cases h3:k=3
     . rw[if_pos h3];exact(by decide:2<=3)
     . rw[if_neg h3];by_cases h4:k=4
       . rw[if_pos h4];exact(by decide:1<=3)
       . rw[if_neg h4];exact(by decide:1<=3)
theorem xV (k a b:Int):(Lib.join (uX k a b) [32]).all okb=true:=by
 have h:=Pd k a b;cases hF:uX k a b with
 |nil=>rfl
 |cons y xs=>
  rw[hF]at h;rw[Lib.join_cons,Ub,h y List.mem_cons_self,Ki xs (fun x hx=>h x (List.mem_cons_of_mem _ hx))];rfl
end Go.Proofs.YtjijonhkofhikaaGreatDoor
