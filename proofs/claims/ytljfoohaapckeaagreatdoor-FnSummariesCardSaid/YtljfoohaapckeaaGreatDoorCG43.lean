/- Numbers read from texts, of both sides: the walks. Conditions: the library's table of powers and its error for a text that is no number, as its text lays them. SplitFields of both sides: the walks. No conditions. The act that a line's words are the text of: plain laws. No program in sight. ScriptText of both sides: the walks. Conditions: the library's table of powers, as its text lays it. The text of an act between blanks is read back as the act. Plain laws; no program in sight. -/
import Derived.Test.YtljfoohaapckeaaGreatDoorCG27
import Derived.Test.YtljfoohaapckeaaGreatDoorCK1
import Derived.Lib.AtoiErrMem
import Derived.Test.YtljfoohaapckeaaGreatDoorCK3
import Derived.Lib.AppendStr
open _root_.List (take_zero map_map map_id all_append all_cons)
open _root_.Nat (le_refl sub_self)
open _root_.Go.Lib (atoi join decDigits joinTail)
open _root_.ByteArray (empty data_append size_append)
open _root_.Go.Proofs.Tryz (prog func115 ntmps115 results115 func114 ntmps114 results114)
namespace Go.Proofs.YtljfoohaapckeaaGreatDoor
open Go.ChangeShapes Go.WideShapes Go.ChangeAt Go.RowKit
set_option linter.unusedVariables false
set_option linter.unusedSimpArgs false
set_option maxHeartbeats 4000000
set_option maxRecDepth 100000
def Syn (w:World):Prop:=∃ev:Value,w.cell? ⟨1,0,none⟩=some ev/\(ev= .nilIface∨∃te pe,ev= .iface te pe)
theorem Syn.below {w w':World} (h:Syn w) (hb:Below w.heap.size w w'):Syn w':=by
 obtain⟨ev,h1,h2⟩:=h;exact⟨ev,(hb.cell (show(⟨1,0,none⟩:Addr).block<w.heap.size from Lib.lt_of_cell h1)).trans h1,h2⟩
theorem Q7 {s : ByteArray} (h : 10 < s.size) : puN s = 0 /\ puB s = false := KO fun n h0 h1 e => by
 have:=I6 h0 h1;rw[e]at this;omega
theorem Bp {n:Int} {s:ByteArray} (h0:0<=n) (e:jE n=s):atoi s.data.toList=some n:=by
 rw[<-e];have:=OA n.toNat;rw[Int.toNat_of_nonneg h0]at this;exact this
theorem Sd {s : ByteArray} (h : atoi s.data.toList = none) : puN s = 0 /\ puB s = false := KO fun n h0 h1 e => by
 rw[Bp h0 e]at h;cases h
theorem Sg {s : ByteArray} {n : Int} (h : atoi s.data.toList = some n) (hn : inB n 0 1000000000 = false) : puN s = 0 /\ puB s = false := KO fun m h0 h1 e => by
 rw[Bp h0 e]at h;cases h;simp[inB]at hn;omega
theorem SC {s : ByteArray} {n : Int} (h : atoi s.data.toList = some n) (hn : jE n ≠ s) : puN s = 0 /\ puB s = false := KO fun m h0 h1 e => by
 have h2:=Bp h0 e;rw[h]at h2;cases h2;exact hn e
theorem qW {a b:ByteArray} (h:a=b):(a.toList==b.toList)=true:=by rw[h];exact beq_self_eq_true _
theorem EY {a b:ByteArray} (h:a≠b):(a.toList==b.toList)=false:=by
 rw[beq_eq_false_iff_ne];exact fun e=>h (str_inj.1 e)
theorem Mx (s:ByteArray) (w:World) (ht:Tab w) (hs:Syn w):Calls prog 115 #[.string s] w (Ret (.tuple #[.int .i64 (puN s),.bool (puB s)]) w):=by
 have HT:=SQ ht;clear ht;by_cases h10:s.size<=10
 . have n10 : ¬ ((10 : Int) < (s.size : Int)) := by omega
   rcases ha:atoi s.data.toList with _|n
   . obtain⟨ev,hv,hev⟩:=hs;have Hp:=SQ (Sd ha);go_enter func115,ntmps115
     go_wp2_with fail
     refine(Tryz.strconv_Atoi_err s (by omega) ha ev _ hv hev).mono ?_;rintro e w1 ⟨N,rfl,_,_,hb1⟩;go_wp2;refine bodyPost_ret (v:= .tuple #[.int .i64 0,.bool false]) (by simp[results,results115,go_sem]) rfl ⟨by rw[Hp.out.1,Hp.out.2],hb1⟩
   . have Ha:=SQ ha;go_enter func115,ntmps115
     go_wp2_with fail
     refine(Tryz.strconv_Atoi s n (by omega) ha _).mono ?_;rintro e w1 ⟨rfl,t,hw1⟩;have hb1:Below w.heap.size w w1:=by rw[hw1];exact Lib.bytesWorld_below _ _ _
     clear hw1 ha;rcases hi:inB n 0 1000000000 with _|_
     . have Hp:=SQ (Sg Ha.out hi);go_wp2_with fail
       refine(fT n 0 1000000000 _).mono ?_;rintro e w2 ⟨rfl,rfl⟩;rw[hi];go_wp2;refine bodyPost_ret (v:= .tuple #[.int .i64 0,.bool false]) (by simp[results,results115,go_sem]) rfl ⟨by rw[Hp.out.1,Hp.out.2],hb1⟩
     . have hr : 0 <= n /\ n <= 1000000000 := by simp [inB] at hi; exact hi
       go_wp2_with fail
       refine(fT n 0 1000000000 _).mono ?_;rintro e w2 ⟨rfl,rfl⟩;rw[hi];clear hi;go_wp2_with fail
       refine(qV n _ hr.1 (by omega) (HT.out.below hb1)).mono ?_;rintro e w3 ⟨rfl,hb2⟩;by_cases he:jE n=s
       . have Hp:=SQ (PV hr.1 hr.2 he);have neq:=qW he;clear he;go_wp2;refine bodyPost_ret (v:= .tuple #[.int .i64 n,.bool true]) (by simp[results,results115,go_sem]) rfl ⟨by rw[Hp.out.1,Hp.out.2],hb1.tr hb2⟩
       . have Hp:=SQ (SC Ha.out he);have neq:=EY he;clear he;go_wp2;refine bodyPost_ret (v:= .tuple #[.int .i64 0,.bool false]) (by simp[results,results115,go_sem]) rfl ⟨by rw[Hp.out.1,Hp.out.2],hb1.tr hb2⟩
 . have n10 : (10 : Int) < (s.size : Int) := by omega
   have Hp:=SQ (Q7 (s:=s) (by omega));go_enter func115,ntmps115
   go_wp2;refine bodyPost_ret (v:= .tuple #[.int .i64 0,.bool false]) (by simp[results,results115,go_sem]) rfl ⟨by rw[Hp.out.1,Hp.out.2],Below.refl _ _⟩
def okb (b:UInt8):Bool:=decide (32<=b.toNat)&&decide (b.toNat<=126)
def iW (s:ByteArray):Bool:=decide (s.size<=600)&&s.data.toList.all okb&&decide ((fg [] s.data.toList).length<=24)
def kW (s:ByteArray):List ByteArray:=(fg [] s.data.toList).map toB
def SpS (s:ByteArray) (k b:Nat) (out:List ByteArray):Prop:=out.map (fun x=>x.data.toList)++fg ((s.data.toList.drop b).take (k-b)) (s.data.toList.drop k)=fg [] s.data.toList/\b<=k/\out.length<=k
theorem ext_list (s:ByteArray) (b k:Nat):(s.extract b k).data.toList=(s.data.toList.drop b).take (k-b):=by
 rw[ByteArray.data_extract,Array.toList_extract,List.extract_eq_take_drop]
theorem Pg (s:ByteArray):SpS s 0 0 []:=⟨by simp,le_refl _,le_refl _⟩
theorem Q8 (s:ByteArray) {k:Nat} (h:k<s.size):∃h':k<s.data.toList.length,s.data.toList[k]=s[k]:=⟨by rw[Array.length_toList];exact h,rfl⟩
theorem Q9 {s:ByteArray} {k b:Nat} {out:List ByteArray} (hk:k<s.size) (hc:s[k].toNat≠32) (h:SpS s k b out):SpS s (k+1) b out:=by
 obtain⟨h1,h2,h3⟩:=h;obtain⟨hk',e⟩:=Q8 s hk;refine⟨?_,by omega,by omega⟩;rw[<-h1,List.drop_eq_getElem_cons hk',fg,if_neg (by rw[e];intro q;apply hc;rw[q];rfl)];congr 2
 have:(s.data.toList.drop b).take (k+1-b)=(s.data.toList.drop b).take (k-b)++[s.data.toList[k]]:=by
  rw[show k+1-b=k-b+1 by omega,List.take_add_one,List.getElem?_drop,show b+(k-b)=k by omega,List.getElem?_eq_getElem hk'];rfl
 exact this
theorem P8 {s:ByteArray} {k b:Nat} (hk:k<=s.size) (hb:b<k):(s.data.toList.drop b).take (k-b)≠[]:=by
 intro h;have:=congrArg List.length h;rw[List.length_take,List.length_drop,Array.length_toList]at this;have e:s.data.size=s.size:=rfl;simp at this;omega
theorem Si {s:ByteArray} {k b:Nat} {out:List ByteArray} (hk:k<s.size) (hc:s[k].toNat=32) (hb:b<k) (h:SpS s k b out):SpS s (k+1) (k+1) (out++[s.extract b k]):=by
 obtain⟨h1,h2,h3⟩:=h;obtain⟨hk',e⟩:=Q8 s hk;refine⟨?_,le_refl _,by simp;omega⟩;rw[<-h1,List.drop_eq_getElem_cons hk',fg,if_pos (by rw[e];exact UInt8.toNat_inj.1 hc),if_neg (P8 (by omega) hb),List.map_append,sub_self,take_zero];simp[ext_list]
theorem Ra {s:ByteArray} {k b:Nat} {out:List ByteArray} (hk:k<s.size) (hc:s[k].toNat=32) (hb:b=k) (h:SpS s k b out):SpS s (k+1) (k+1) out:=by
 obtain⟨h1,h2,h3⟩:=h;obtain⟨hk',e⟩:=Q8 s hk;subst hb;refine⟨?_,le_refl _,by omega⟩;rw[<-h1,sub_self,sub_self,take_zero,take_zero,List.drop_eq_getElem_cons hk',fg,if_pos (by rw[e];exact UInt8.toNat_inj.1 hc),if_pos rfl]
theorem J4 {out : List ByteArray} {l : List Bs} (h : out.map (fun x => x.data.toList) = l) : out = l.map toB := by
 rw[<-h,map_map];have:(toB∘fun x:ByteArray=>x.data.toList)=id:=by funext x;exact JG x
 rw[this,map_id]
theorem J5 (s:ByteArray):s.data.toList.drop s.size=[]:=by
 apply List.drop_of_length_le;rw[Array.length_toList];exact le_refl _
theorem Rb {s:ByteArray} {b:Nat} {out:List ByteArray} (hb:b<s.size) (h:SpS s s.size b out):out++[s.extract b s.size]=kW s:=by
 obtain⟨h1,h2,h3⟩:=h;apply J4;rw[<-h1,J5,fg,if_neg (P8 (le_refl _) hb),List.map_append];simp[ext_list]
theorem Rc {s:ByteArray} {b:Nat} {out:List ByteArray} (hb:b=s.size) (h:SpS s s.size b out):out=kW s:=by
 obtain⟨h1,h2,h3⟩:=h;subst hb;apply J4;rw[<-h1,J5,sub_self,take_zero,fg,if_pos rfl,List.append_nil]
theorem J6 (s:ByteArray):(kW s).length=(fg [] s.data.toList).length:=by unfold kW;rw[List.length_map]
theorem NC {s:ByteArray} (h:600<s.size):iW s=false:=by unfold iW;rw[decide_eq_false (by omega)];rfl
theorem J7 {s:ByteArray} {k:Nat} (hk:k<s.size) (h:s[k].toNat<32∨126<s[k].toNat):iW s=false:=by
 obtain⟨hk',e⟩:=Q8 s hk
 have:s.data.toList.all okb=false:=by
  rw[List.all_eq_false];refine⟨s.data.toList[k],List.getElem_mem hk',?_⟩;rw[e];unfold okb;simp;omega
 unfold iW;rw[this];simp
theorem Jj {s:ByteArray} {k:Nat} (hk:k<s.size) (h:32<=s[k].toNat/\s[k].toNat<=126) (e:(s.data.toList.take k).all okb=true):(s.data.toList.take (k+1)).all okb=true:=by
 obtain⟨hk',e'⟩:=Q8 s hk;rw[List.take_succ_eq_append_getElem hk',all_append,e,e'];simp[okb,h.1,h.2]
theorem Ph {s:ByteArray} (h6:s.size<=600) (e:(s.data.toList.take s.size).all okb=true):iW s=decide ((kW s).length<=24):=by
 rw[List.take_of_length_le (by rw[Array.length_toList];exact le_refl _)]at e;unfold iW;rw[decide_eq_true h6,e,J6];rfl
def LB (s:ByteArray) (w:World) (e:Ending) (w':World):Prop:=∃v,e= .returned (.tuple #[v,.bool (iW s)])/\(iW s=true->aC 9 1 kP w.heap.size w' v (kW s))/\Below w.heap.size w w'
theorem Fw {s:ByteArray} {w w':World} {v:Value} (h:iW s=false) (hb:Below w.heap.size w w'):LB s w (.returned (.tuple #[v,.bool false])) w':=⟨v,by rw[h],fun q=>(by rw[h]at q;cases q),hb⟩
theorem MB {s:ByteArray} {w w':World} {v:Value} (h:iW s=true) (ho:aC 9 1 kP w.heap.size w' v (kW s)) (hb:Below w.heap.size w w'):LB s w (.returned (.tuple #[v,.bool true])) w':=⟨v,by rw[h],fun _=>ho,hb⟩
theorem yR (s:ByteArray) (w:World):Calls prog 114 #[.string s] w (LB s w):=by
 by_cases h6:s.size<=600
 . have own0:=iA w (E:=9) (size:=1) (enc:=kP) w.heap.size rfl w.heap.size (le_refl _);have n6:¬((600:Int)<(s.size:Int)):=(by omega);go_enter func114,ntmps114
   go_wp2;go_loopw [4,5,6,13] (fun s4 s5 s6 s13 wr=>∃(k b:Nat) (out:List ByteArray) (D:Option Addr) (d:Nat) (f:Int) (z:Value),s6=z/\k<=s.size/\s13= .int .i64 k/\s5= .int .i64 f/\((f= -1/\b=k)∨(f=b/\b<k))/\s4= .slice D out.length d/\aC 9 1 kP w.heap.size wr (.slice D out.length d) out/\Hid (SpS s k b out/\(s.data.toList.take k).all okb=true)/\Below w.heap.size w wr) (fun _ _ _ i _=>s.size-(intOf i).toNat)
   case atStart=>exact⟨0,0,[],_,_,-1,_,rfl,Nat.zero_le _,rfl,rfl,.inl ⟨rfl,rfl⟩,rfl,own0,SQ ⟨Pg s,rfl⟩,(Below.refl _ _).al _⟩
   case round=>
    obtain⟨k,b,out,D,d,f,z,rfl,hk,rfl,rfl,hf,rfl,hown,Hg,hbel⟩:=hrel;clear own0;have hol:out.length<=600:=by have:=Hg.out.1.2.2;omega
    have H8:Hid ((out.length+1)*16<=140737488355328):=SQ (by omega);have HM:Hid (out.length+1<=maxLen):=SQ (by unfold maxLen;omega);by_cases hlt:k<s.size
    . have hki : (k : Int) < (s.size : Int) := by omega
      by_cases hlo:s[k].toNat<32
      . have i1 : ((s[k].toNat : Nat) : Int) < 32 := by omega
        have Hn:=SQ (J7 hlt (.inl hlo));go_wp2;refine bodyPost_ret (v:= .tuple #[.slice none 0 0,.bool false]) (by simp[results,results114,go_sem]) rfl (Fw Hn.out hbel)
      . have i1 : ¬ (((s[k].toNat : Nat) : Int) < 32) := by omega
        by_cases hhi:126<s[k].toNat
        . have i2 : (126 : Int) < ((s[k].toNat : Nat) : Int) := by omega
          have Hn:=SQ (J7 hlt (.inr hhi));go_wp2;refine bodyPost_ret (v:= .tuple #[.slice none 0 0,.bool false]) (by simp[results,results114,go_sem]) rfl (Fw Hn.out hbel)
        . have i2 : ¬ ((126 : Int) < ((s[k].toNat : Nat) : Int)) := by omega
          have Ha:=SQ (Jj hlt ⟨by omega,by omega⟩ Hg.out.2);by_cases hsp:s[k].toNat=32
          . have i3 : ((s[k].toNat : Nat) : Int) = 32 := by omega
            rcases hf with⟨rfl,rfl⟩|⟨rfl,hbk⟩
            . have Hs:=SQ (Ra hlt hsp rfl Hg.out.1);go_wp2;go_roundw
              case rel=>exact⟨b+1,b+1,out,D,d,-1,_,rfl,by omega,by go_num,rfl,.inl ⟨rfl,rfl⟩,rfl,hown,SQ ⟨Hs.out,Ha.out⟩,hbel⟩
              case measure=>simp[intOf];omega
            . have Hs:=SQ (Si hlt hsp hbk Hg.out.1);have hb0:(0:Int)<=(b:Int):=(by omega);have hbi:(b:Int)<=(k:Int):=(by omega);go_wp2_with (at_builtin;go_must (refine aH (enc:=kP) xA kG zU hbel hown (s.extract b k) H8.out HM.out rfl _ _ rfl rfl rfl ?_);intro v4 w4 own4 hb4 hg4 hd4;obtain⟨A4,c4,rfl,hc4,hm4⟩:=own4.form)
              go_roundw
              case rel=>exact⟨k+1,k+1,out++[s.extract b k],A4,c4,-1,_,rfl,by omega,by go_num,rfl,.inl ⟨rfl,rfl⟩,by simp,own4,SQ ⟨Hs.out,Ha.out⟩,hb4⟩
              case measure=>simp[intOf];omega
          . have i3 : ¬ (((s[k].toNat : Nat) : Int) = 32) := by omega
            have Hs:=SQ (Q9 hlt hsp Hg.out.1);rcases hf with⟨rfl,rfl⟩|⟨rfl,hbk⟩
            . go_wp2;go_roundw
              case rel=>exact⟨b+1,b,out,D,d,_,_,rfl,by omega,by go_num,rfl,.inr ⟨rfl,by omega⟩,rfl,hown,SQ ⟨Hs.out,Ha.out⟩,hbel⟩
              case measure=>simp[intOf];omega
            . have hb0 : ¬ ((b : Int) < 0) := by omega
              go_wp2;go_roundw
              case rel=>exact⟨k+1,b,out,D,d,_,_,rfl,by omega,by go_num,rfl,.inr ⟨rfl,by omega⟩,rfl,hown,SQ ⟨Hs.out,Ha.out⟩,hbel⟩
              case measure=>simp[intOf];omega
    . obtain rfl : k = s.size := by omega
      have He:=SQ (Ph h6 Hg.out.2);rcases hf with⟨rfl,rfl⟩|⟨rfl,hbk⟩
      . have hs:=Rc rfl Hg.out.1;subst hs;by_cases h24:(kW s).length<=24
        . have j1 : ¬ ((24 : Int) < ((kW s).length : Int)) := by omega
          have Hy:Hid (iW s=true):=SQ (by rw[He.out,decide_eq_true h24]);go_wp2;refine bodyPost_ret (v:= .tuple #[.slice D (kW s).length d,.bool true]) (by simp[results,results114,go_sem]) rfl (MB Hy.out hown hbel)
        . have j1 : (24 : Int) < ((kW s).length : Int) := by omega
          have Hn:Hid (iW s=false):=SQ (by rw[He.out,decide_eq_false h24]);go_wp2;refine bodyPost_ret (v:= .tuple #[.slice none 0 0,.bool false]) (by simp[results,results114,go_sem]) rfl (Fw Hn.out hbel)
      . have hs:=Rb hbk Hg.out.1;have Hs:=SQ hs;clear hs;have hb0:(0:Int)<=(b:Int):=(by omega);have hbi:(b:Int)<=(s.size:Int):=(by omega);by_cases h24:(kW s).length<=24
        . have j1 : ¬ ((24 : Int) < ((kW s).length : Int)) := by omega
          have Hy:Hid (iW s=true):=SQ (by rw[He.out,decide_eq_true h24]);go_wp2_with (at_builtin;go_must (refine aH (enc:=kP) xA kG zU hbel hown (s.extract b s.size) H8.out HM.out rfl _ _ rfl rfl rfl ?_);rw[Hs.out];intro v4 w4 own4 hb4 hg4 hd4;obtain⟨A4,c4,rfl,hc4,hm4⟩:=own4.form)
          refine bodyPost_ret (v:= .tuple #[.slice A4 (kW s).length c4,.bool true]) (by simp[results,results114,go_sem]) rfl (MB Hy.out own4 hb4)
        . have j1 : (24 : Int) < ((kW s).length : Int) := by omega
          have Hn:Hid (iW s=false):=SQ (by rw[He.out,decide_eq_false h24]);go_wp2_with (at_builtin;go_must (refine aH (enc:=kP) xA kG zU hbel hown (s.extract b s.size) H8.out HM.out rfl _ _ rfl rfl rfl ?_);rw[Hs.out];intro v4 w4 own4 hb4 hg4 hd4;obtain⟨A4,c4,rfl,hc4,hm4⟩:=own4.form)
          refine bodyPost_ret (v:= .tuple #[.slice none 0 0,.bool false]) (by simp[results,results114,go_sem]) rfl (Fw Hn.out hb4)
 . have n6 : (600 : Int) < (s.size : Int) := by omega
   have Hn:=SQ (NC (s:=s) (by omega));go_enter func114,ntmps114
   go_wp2;refine bodyPost_ret (v:= .tuple #[.slice none 0 0,.bool false]) (by simp[results,results114,go_sem]) rfl (Fw Hn.out (Below.refl _ _))
end Go.Proofs.YtljfoohaapckeaaGreatDoor
namespace Go.Proofs.YtljfoohaapckeaaGreatDoor
open Go.RowKit
set_option linter.unusedVariables false
set_option linter.unusedSimpArgs false
set_option maxHeartbeats 4000000
set_option maxRecDepth 100000
abbrev F3:=Int×Int×Int
def IJ (F:List ByteArray):ByteArray:=toB (join (F.map fun x=>x.data.toList) [32])
def Re (F:List ByteArray):Prop:=∀x∈F.map (fun x=>x.data.toList),x≠[]/\xO x
def Cr (F:List ByteArray) (x:F3):Prop:=lF x.1 x.2.1 x.2.2=true/\rM x.1 x.2.1 x.2.2=IJ F
theorem Rf (F : List ByteArray) : (F.map fun x => x.data.toList).map toB = F := by
 rw[map_map];conv=>rhs;rw[<-map_id F]
 exact List.map_congr_left fun x _=>JG x
theorem AO (s:ByteArray):Re (kW s):=by
 intro x hx
 have e : (kW s).map (fun x => x.data.toList) = fg [] s.data.toList := by
  unfold kW;rw[map_map];conv=>rhs;rw[<-map_id (fg [] s.data.toList)]
  exact List.map_congr_left fun x _=>wI x
 rw[e]at hx;exact Iz _ _ (fun _ h=>by cases h) x hx
theorem Cj {F:List ByteArray} {x:F3} (hw:Re F) (h:Cr F x):F=(vF x.1 x.2.1 x.2.2).map toB:=by
 have:=ET h.1 hw h.2;rw[<-this,Rf]
theorem ND {F:List ByteArray} {x y:F3} (hw:Re F) (h:Cr F x) (h':Cr F y):x=y:=by
 have h1:=ET h.1 hw h.2;have h2:=ET h'.1 hw h'.2;obtain⟨a,b,c⟩:=OB h.1 h'.1 (h1.symm.trans h2);obtain⟨x1,x2,x3⟩:=x;obtain⟨y1,y2,y3⟩:=y;simp only at a b c;subst a;subst b;subst c;rfl
open Classical in
noncomputable def paX (s:ByteArray):F3:=if h:iW s=true/\(kW s).length<=3/\∃x,Cr (kW s) x then h.2.2.choose else(0,0,0)
open Classical in
noncomputable def paB (s:ByteArray):Bool:=decide (iW s=true/\(kW s).length<=3/\∃x,Cr (kW s) x)
theorem P9 {s:ByteArray} {x:F3} (h1:iW s=true) (h2:(kW s).length<=3) (h:Cr (kW s) x):paX s=x/\paB s=true:=by
 have hx:iW s=true/\(kW s).length<=3/\∃x,Cr (kW s) x:=⟨h1,h2,x,h⟩;refine⟨?_,?_⟩
 . unfold paX;rw[dif_pos hx];exact ND (AO s) hx.2.2.choose_spec h
 . unfold paB;simp only[decide_eq_true_eq];exact hx
theorem NP {s:ByteArray} (h:¬(iW s=true/\(kW s).length<=3/\∃x,Cr (kW s) x)):paX s=(0,0,0)/\paB s=false:=by
 refine⟨?_,?_⟩
 . unfold paX;rw[dif_neg h]
 . unfold paB;simp only[decide_eq_false_iff_not];exact h
def sH (x:ByteArray):Int:=if x=mW then 1 else if x=jZ then 2 else if x=wH then 3 else if x=mX then 4 else if x=kC then 5 else 0
def nth (F:List ByteArray) (i:Nat):ByteArray:=F.getD i empty
noncomputable def l40 (s:ByteArray):Int:=if h:1<s.size then(if s[0].toNat=45 then-puN (s.extract 1 s.size)else puN s)else puN s
theorem La (n:Int):jE n≠empty:=by
 intro h;have:=congrArg (fun x:ByteArray=>x.data.toList) h;exact IA n.toNat (by simpa[jE]using this)
theorem oQ:puN empty=0/\puB empty=false:=KO fun n _ _ e=>La n e
theorem pY:l40 empty=0:=by
 unfold l40;rw[dif_neg (by decide)];exact oQ.1
theorem CE {a:Int} (h0:0<=a) (h1:a<=1000000000):puN (toB (decDigits a.toNat))=a/\puB (toB (decDigits a.toNat))=true:=PV h0 h1 rfl
theorem Ev {a:Int} (h0:0<=a) (h1:a<=1000000000):l40 (toB (decDigits a.toNat))=a:=by
 unfold l40;split
 . rename_i h;have hl:0<(decDigits a.toNat).length:=List.length_pos_iff.2 (IA _);have h3:=uL a.toNat _ (List.getElem_mem hl)
   have h4:¬((toB (decDigits a.toNat))[0].toNat=45):=by
    have h5:48<=(toB (decDigits a.toNat))[0].toNat:=h3.1;omega
   split
   . rename_i h6;exact absurd h6 h4
   . exact(CE h0 h1).1
 . exact(CE h0 h1).1
structure Det (F:List ByteArray) (x:F3):Prop where
  kd:sH (nth F 0)=x.1
  ka:puN (nth F 1)=x.2.1
  kb:puN (nth F 2)=x.2.2
  ha:l40 (nth F 1)=x.2.1
  hb:l40 (nth F 2)=x.2.2
  al:∀i,0<i->i<F.length->puB (nth F i)=true
  in1:1<=x.1/\x.1<=5
theorem Rh:sH jZ=2:=by
 unfold sH;rw[if_neg (by intro h;have:=congrArg ByteArray.size h;exact absurd this (by decide)),if_pos rfl]
theorem Ri:sH wH=3:=by
 unfold sH;rw[if_neg (by intro h;have:=congrArg ByteArray.size h;exact absurd this (by decide)),if_neg (by intro h;have:=congrArg ByteArray.size h;exact absurd this (by decide)),if_pos rfl]
theorem NQ {x y:ByteArray} (h:x.data.toList≠y.data.toList):x≠y:=fun e=>h (by rw[e])
theorem Rj:sH mX=4:=by
 unfold sH;rw[if_neg (NQ (by decide)),if_neg (NQ (by decide)),if_neg (NQ (by decide)),if_pos rfl]
theorem Rk:sH kC=5:=by
 unfold sH;rw[if_neg (NQ (by decide)),if_neg (NQ (by decide)),if_neg (NQ (by decide)),if_neg (NQ (by decide)),if_pos rfl]
theorem MC {F:List ByteArray} {x:F3} (hw:Re F) (h:Cr F x):Det F x:=by
 have hF:=Cj hw h;obtain⟨k,a,b⟩:=x;have hok:=h.1;simp only at hok hF;have two:∀i:Nat,0<i->i<3->i=1∨i=2:=(by omega);rcases mJ hok with⟨rfl,q1,q2,q3,q4⟩|⟨rfl,q1,q2,rfl⟩|⟨rfl,q1,q2,rfl⟩|⟨rfl,rfl,rfl⟩|⟨rfl,rfl,rfl⟩
 . have e:F=[mW,toB (decDigits a.toNat),toB (decDigits b.toNat)]:=hF;subst e;have pa:=CE q1 (by omega);have pb:=CE q3 (by omega);refine⟨by show sH mW=1;unfold sH;rw[if_pos rfl],pa.1,pb.1,Ev q1 (by omega),Ev q3 (by omega),fun i h0 h1=> ?_,⟨by show(1:Int)<=_;omega,by show _<=(5:Int);omega⟩⟩;rcases two i h0 h1 with rfl|rfl
   . exact pa.2
   . exact pb.2
 . have e:F=[jZ,toB (decDigits a.toNat)]:=hF;subst e;have pa:=CE q1 (by omega);refine⟨Rh,pa.1,oQ.1,Ev q1 (by omega),pY,fun i h0 h1=> ?_,⟨by show(1:Int)<=_;omega,by show _<=(5:Int);omega⟩⟩;obtain rfl:i=1:=by simp at h1;omega
   exact pa.2
 . have e:F=[wH,toB (decDigits a.toNat)]:=hF;subst e;have pa:=CE (a:=a) (by omega) (by omega);refine⟨Ri,pa.1,oQ.1,Ev (by omega) (by omega),pY,fun i h0 h1=> ?_,⟨by show(1:Int)<=_;omega,by show _<=(5:Int);omega⟩⟩;obtain rfl:i=1:=by simp at h1;omega
   exact pa.2
 . have e:F=[mX]:=hF;subst e;exact⟨Rj,oQ.1,oQ.1,pY,pY,fun i h0 h1=>by simp at h1;omega,by decide⟩
 . have e:F=[kC]:=hF;subst e;exact⟨Rk,oQ.1,oQ.1,pY,pY,fun i h0 h1=>by simp at h1;omega,by decide⟩
end Go.Proofs.YtljfoohaapckeaaGreatDoor
namespace Go.Proofs.YtljfoohaapckeaaGreatDoor
open Go.ChangeShapes Go.WideShapes Go.ChangeAt Go.RowKit
set_option linter.unusedVariables false
set_option linter.unusedSimpArgs false
set_option maxHeartbeats 4000000
set_option maxRecDepth 100000
theorem Lb {k a b:Int} (h:lF k a b=true):(rM k a b).size<=100:=by
 have h1:mW.size=4:=rfl;have h2:jZ.size=5:=rfl;have h3:wH.size=3:=rfl;have h4:mX.size=4:=rfl;have h5:kC.size=5:=rfl;rcases mJ h with⟨rfl,q1,q2,q3,q4⟩|⟨rfl,q1,q2,rfl⟩|⟨rfl,q1,q2,rfl⟩|⟨rfl,rfl,rfl⟩|⟨rfl,rfl,rfl⟩
 . have:=qH [a,b] mW (by simp;omega);simp[rM]at this⊢;omega
 . have:=qH [a] jZ (by simp;omega);simp[rM]at this⊢;omega
 . have:=qH [a] wH (by simp;omega);simp[rM]at this⊢;omega
 . simp[rM];omega
 . simp[rM];omega
theorem zS (k a b:Int):(iJ k a b).size<=100:=by
 unfold iJ;split
 . rename_i h;exact Lb h
 . exact Nat.zero_le _
end Go.Proofs.YtljfoohaapckeaaGreatDoor
namespace Go.Proofs.YtljfoohaapckeaaGreatDoor
open Go.RowKit
set_option linter.unusedVariables false
set_option linter.unusedSimpArgs false
set_option maxHeartbeats 4000000
set_option maxRecDepth 100000
theorem Ry:∀(l cur:Bs),fg cur (l++[32])=fg cur l
  | [], cur => by
   show fg cur (32::[])=fg cur [];simp only[fg,if_true]
  |c::r,cur=>by simp only[List.cons_append,fg,Ry r]
theorem J8:∀xs:List Bs,(∀x∈xs,x.all okb=true)->(joinTail [32] xs).all okb=true
  |[],_=>rfl
  | y :: xs, h => by
   have e:joinTail [32] (y::xs)=32::(y++joinTail [32] xs):=(by simp[joinTail]);rw[e,all_cons,all_append,h y List.mem_cons_self,J8 xs (fun x hx=>h x (List.mem_cons_of_mem _ hx))];decide
theorem ME (u:Nat):(decDigits u).all okb=true:=by
 rw[List.all_eq_true];intro b hb;have:=uL u b hb;unfold okb;simp;omega
theorem Pj (k a b:Int):∀x∈vF k a b,x.all okb=true:=by
 have w1:mW.data.toList.all okb=true:=(by decide);have w2:jZ.data.toList.all okb=true:=(by decide);have w3:wH.data.toList.all okb=true:=(by decide);have w4:mX.data.toList.all okb=true:=(by decide);have w5:kC.data.toList.all okb=true:=(by decide);have da:=ME a.toNat;have db:=ME b.toNat;intro x hx;unfold vF at hx;repeat' split at hx
 all_goals simp only[List.mem_cons,List.not_mem_nil,or_false]at hx
 . rcases hx with rfl|rfl|rfl
   . exact w1
   . exact da
   . exact db
 . rcases hx with rfl|rfl
   . exact w2
   . exact da
 . rcases hx with rfl|rfl
   . exact w3
   . exact da
 . subst hx;exact w4
 . subst hx;exact w5
theorem Pk (k a b:Int):(vF k a b).length<=3:=by
 unfold vF;by_cases h1:k=1
 . rw[if_pos h1];exact le_refl 3
 . rw[if_neg h1];by_cases h2:k=2
   . rw[if_pos h2];exact(by decide:2<=3)
   . rw[if_neg h2];by_cases h3:k=3
     . rw[if_pos h3];exact(by decide:2<=3)
     . rw[if_neg h3];by_cases h4:k=4
       . rw[if_pos h4];exact(by decide:1<=3)
       . rw[if_neg h4];exact(by decide:1<=3)
theorem Fx (k a b:Int):(join (vF k a b) [32]).all okb=true:=by
 have h:=Pj k a b;cases hF:vF k a b with
 |nil=>rfl
 |cons y xs=>
  rw[hF]at h;rw[Lib.join_cons,all_append,h y List.mem_cons_self,J8 xs (fun x hx=>h x (List.mem_cons_of_mem _ hx))];rfl
def J9 (t:ByteArray):ByteArray:=(⟨#[32,32]⟩:ByteArray)++t++(⟨#[32]⟩:ByteArray)
theorem Pm (t:ByteArray):(J9 t).data.toList=32::32::(t.data.toList++[32]):=by
 unfold J9;rw[data_append,data_append];simp
theorem Pn (t:ByteArray):(J9 t).size=t.size+3:=by
 unfold J9;rw[size_append,size_append];have h1:(⟨#[32,32]⟩:ByteArray).size=2:=rfl;have h2:(⟨#[32]⟩:ByteArray).size=1:=rfl;omega
theorem Qa {k a b:Int} (h:lF k a b=true):paX (J9 (iJ k a b))=(k,a,b)/\paB (J9 (iJ k a b))=true:=by
 have e:iJ k a b=toB (join (vF k a b) [32]):=by unfold iJ;rw[if_pos h];exact yP h
 have hd:(J9 (iJ k a b)).data.toList=32::32::(join (vF k a b) [32]++[32]):=by rw[Pm,e];rfl
 have hf:fg [] (J9 (iJ k a b)).data.toList=vF k a b:=by
  rw[hd];simp only[fg,if_true];rw[Ry,AA _ (Mf k a b)]
 have hl:=Pk k a b;refine P9 ?_ (by rw[J6,hf];exact hl) ⟨h,?_⟩
 . unfold iW;rw[hf,hd,all_cons,all_cons,all_append,Fx,Pn,decide_eq_true (show(iJ k a b).size+3<=600 by have:=zS k a b;omega),decide_eq_true (show(vF k a b).length<=24 by omega)];decide
 . show rM k a b=_;unfold IJ kW
   have hm : ((vF k a b).map toB).map (fun x => x.data.toList) = vF k a b := by
    rw[map_map];conv=>rhs;rw[<-map_id (vF k a b)]
    exact List.map_congr_left fun x _=>wI x
   rw[hf,hm,yP h]
end Go.Proofs.YtljfoohaapckeaaGreatDoor
