/- Dominoes as text: plain laws. No program in sight. -/
import Derived.Test.YtfdbcihcdjjdhaaGreatDoorZParsePl
import Derived.Test.YtfdbcihcdjjdhaaGreatDoorZK5
namespace Go.Proofs.YtfdbcihcdjjdhaaGreatDoor
set_option linter.unusedVariables false
set_option linter.unusedSimpArgs false
def domW (d:Dm):Bs:=Lib.decDigits d.1.toNat++44::(Lib.decDigits d.2.1.toNat++[if d.2.2=true then 100 else 114])
def domT (d:Dm):ByteArray:=toB (domW d)
def tilT (l:List Dm):ByteArray:=toB (Lib.join (l.map domW) [32])
theorem dom_in {d:Dm} (h:domOk d=true):(0≤d.1∧d.1≤7)∧(0≤d.2.1∧d.2.1≤7):=by
 have h1:=(cellIx_in (domOk_cells h).1).2
 have h2:=(domOk_cells h).1
 unfold cellOk inB at h2
 simp at h2
 omega
theorem domW_one {d:Dm} (h:domOk d=true):domW d=[UInt8.ofNat (48+d.1.toNat),44,UInt8.ofNat (48+d.2.1.toNat),if d.2.2=true then 100 else 114]:=by
 have h1:=dom_in h
 unfold domW
 rw[Lib.decDigits_one (by omega),Lib.decDigits_one (by omega)]
 rfl
theorem byte_inj {a b:Nat} (ha:a≤7) (hb:b≤7) (h:UInt8.ofNat (48+a)=UInt8.ofNat (48+b)):a=b:=by
 have:=congrArg UInt8.toNat h
 rw[UInt8.toNat_ofNat',UInt8.toNat_ofNat']at this
 omega
theorem domW_inj {d e:Dm} (hd:domOk d=true) (he:domOk e=true) (h:domW d=domW e):d=e:=by
 rw[domW_one hd,domW_one he]at h
 have h1:=dom_in hd
 have h2:=dom_in he
 obtain⟨x,y,s⟩:=d
 obtain⟨x',y',s'⟩:=e
 simp only[List.cons.injEq,and_true,true_and]at h h1 h2
 obtain⟨a,b,c⟩:=h
 have e1:=byte_inj (by omega) (by omega) a
 have e2:=byte_inj (by omega) (by omega) b
 have e3:x=x':=by omega
 have e4:y=y':=by omega
 subst e3;subst e4
 have e5:s=s':=by
  cases s<;>cases s'
  · rfl
  · exact absurd (show(114:UInt8)=100 from c) (by decide)
  · exact absurd (show(100:UInt8)=114 from c) (by decide)
  · rfl
 rw[e5]
theorem domW_ok {d:Dm} (h:domOk d=true):domW d≠[]∧NoSp (domW d):=by
 have h1:=dom_in h
 rw[domW_one h]
 refine⟨by simp,fun b hb e=> ?_⟩
 subst e
 have n32 : ∀ a : Nat, a ≤ 7 → (32 : UInt8) ≠ UInt8.ofNat (48 + a) := fun a ha q => by
  have:=congrArg UInt8.toNat q
  rw[UInt8.toNat_ofNat']at this
  have e:(32:UInt8).toNat=32:=rfl
  omega
 simp only[List.mem_cons,List.not_mem_nil,or_false]at hb
 rcases hb with hb|hb|hb|hb
 · exact n32 _ (by omega) hb
 · exact absurd hb (by decide)
 · exact n32 _ (by omega) hb
 · split at hb<;>exact absurd hb (by decide)
theorem map_inj:∀{l m:List Dm},(∀d∈l,domOk d=true)→(∀d∈m,domOk d=true)→l.map domW=m.map domW→l=m
  |[],[],_,_,_=>rfl
  |[],_::_,_,_,h=>by simp at h
  |_::_,[],_,_,h=>by simp at h
  | d :: l, e :: m, hl, hm, h => by
   rw[List.map_cons,List.map_cons]at h
   obtain⟨h1,h2⟩:=List.cons.inj h
   rw[domW_inj (hl d List.mem_cons_self) (hm e List.mem_cons_self) h1,map_inj (fun x hx=>hl x (List.mem_cons_of_mem _ hx)) (fun x hx=>hm x (List.mem_cons_of_mem _ hx)) h2]
theorem tilT_inj {l m:List Dm} (hl:∀d∈l,domOk d=true) (hm:∀d∈m,domOk d=true) (h:tilT l=tilT m):l=m:=by
 have h1:=congrArg (fg []) (toB_inj h)
 rw[fg_join _ (fun x hx=>by obtain⟨d,hd,rfl⟩:=List.mem_map.1 hx;exact domW_ok (hl d hd)),fg_join _ (fun x hx=>by obtain⟨d,hd,rfl⟩:=List.mem_map.1 hx;exact domW_ok (hm d hd))]at h1
 exact map_inj hl hm h1
theorem domT_size {d:Dm} (h:domOk d=true):(domT d).size=4:=by
 have:(domT d).size=(domW d).length:=rfl
 rw[this,domW_one h]
 rfl
end Go.Proofs.YtfdbcihcdjjdhaaGreatDoor
