/- The links of a list of tilings, as both sides hold them: plain laws. No program in sight. -/
import Derived.Test.YtfdbcihcdjjdhaaGreatDoorZWayPl
import Derived.Test.YtfdbcihcdjjdhaaGreatDoorZTxtPl
import Derived.Maps.Views
namespace Go.Proofs.YtfdbcihcdjjdhaaGreatDoor
set_option linter.unusedVariables false
set_option linter.unusedSimpArgs false
def putI (n:Int):List Int→List Int
  |[]=>[n]
  |x::r=>if n≤x then n::x::r else x::putI n r
theorem putI_mem (n:Int):∀(l:List Int) (x:Int),x∈putI n l↔x=n∨x∈l
  |[],x=>by simp[putI]
  | y :: r, x => by
   unfold putI
   split
   · simp
   · rw[List.mem_cons,putI_mem n r x,List.mem_cons]
     constructor
     · rintro(h|h|h)
       · exact .inr (.inl h)
       · exact .inl h
       · exact .inr (.inr h)
     · rintro(h|h|h)
       · exact .inr (.inl h)
       · exact .inl h
       · exact .inr (.inr h)
theorem putI_len (n:Int):∀l:List Int,(putI n l).length=l.length+1
  |[]=>rfl
  | y :: r => by
   unfold putI
   split
   · rfl
   · rw[List.length_cons,putI_len n r,List.length_cons]
def linkI (T:List (List Dm)) (j:Nat) (c:Cl):Int:=((ix T (flipTo (til T j) c):Nat):Int)
def nearTo (T:List (List Dm)) (j k:Nat):List Int:=((flips (til T j)).take k).foldl (fun own c=>putI (linkI T j c) own) []
def nearL (T:List (List Dm)) (j:Nat):List Int:=nearTo T j (flips (til T j)).length
def linkTo (T:List (List Dm)) (j k:Nat):List Int:=((flips (til T j)).take k).map (linkI T j)
def linkL (T:List (List Dm)) (j:Nat):List Int:=(flips (til T j)).map (linkI T j)
theorem flips_len (l:List Dm):(flips l).length≤64:=by
 unfold flips
 refine Nat.le_trans (List.length_filter_le _ _) ?_
 simp
theorem nearTo_succ {T:List (List Dm)} {j k:Nat} (h:k<(flips (til T j)).length):nearTo T j (k+1)=putI (linkI T j (flips (til T j))[k]) (nearTo T j k):=by
 unfold nearTo
 rw[List.take_succ_eq_append_getElem h,List.foldl_append]
 rfl
theorem nearTo_len {T:List (List Dm)} {j:Nat}:∀k,k≤(flips (til T j)).length→(nearTo T j k).length=k
  |0,_=>rfl
  |k+1,h=>by rw[nearTo_succ (by omega),putI_len,nearTo_len k (by omega)]
theorem linkTo_succ {T:List (List Dm)} {j k:Nat} (h:k<(flips (til T j)).length):linkTo T j k++[linkI T j (flips (til T j))[k]]=linkTo T j (k+1):=by
 unfold linkTo
 rw[List.take_succ_eq_append_getElem h,List.map_append]
 rfl
theorem linkTo_len {T:List (List Dm)} {j k:Nat} (h:k≤(flips (til T j)).length):(linkTo T j k).length=k:=by
 unfold linkTo
 rw[List.length_map,List.length_take]
 omega
theorem linkTo_all (T:List (List Dm)) (j:Nat):linkTo T j (flips (til T j)).length=linkL T j:=by unfold linkTo linkL;rw[List.take_length]
theorem fold_mem (g : Cl → Int) : ∀ (l : List Cl) (own : List Int) (x : Int), x ∈ l.foldl (fun own c => putI (g c) own) own ↔ x ∈ own ∨ ∃ c ∈ l, x = g c
  |[],own,x=>by simp
  | c :: l, own, x => by
   rw[List.foldl_cons,fold_mem g l,putI_mem]
   constructor
   · rintro((h|h)|⟨d,hd,e⟩)
     · exact .inr ⟨c,List.mem_cons_self,h⟩
     · exact .inl h
     · exact .inr ⟨d,List.mem_cons_of_mem _ hd,e⟩
   · rintro(h|⟨d,hd,e⟩)
     · exact .inl (.inr h)
     · rcases List.mem_cons.1 hd with rfl|hd
       · exact .inl (.inl e)
       · exact .inr ⟨d,hd,e⟩
structure Adj (T:List (List Dm)) (near:List (List Int)):Prop where
  len:near.length=T.length
  mem:∀(j:Nat) (h:j<near.length) (x:Int),x∈near[j]↔∃i:Nat,x=i∧Edge T j i
def nearLL (T:List (List Dm)) (k:Nat):List (List Int):=(List.range k).map (nearL T)
def linkLL (T:List (List Dm)) (k:Nat):List (List Int):=(List.range k).map (linkL T)
theorem nearLL_succ (T:List (List Dm)) (k:Nat):nearLL T k++[nearL T k]=nearLL T (k+1):=by unfold nearLL;rw[List.range_succ,List.map_append];rfl
theorem linkLL_succ (T:List (List Dm)) (k:Nat):linkLL T k++[linkL T k]=linkLL T (k+1):=by unfold linkLL;rw[List.range_succ,List.map_append];rfl
theorem nearLL_len (T:List (List Dm)) (k:Nat):(nearLL T k).length=k:=by simp[nearLL]
theorem linkLL_len (T:List (List Dm)) (k:Nat):(linkLL T k).length=k:=by simp[linkLL]
theorem adj_near (T:List (List Dm)):Adj T (nearLL T T.length) where
  len:=nearLL_len T _
  mem := fun j h x => by
   rw[nearLL_len]at h
   have e:(nearLL T T.length)[j]'(by rw[nearLL_len];exact h)=nearL T j:=by simp[nearLL]
   rw[e]
   unfold nearL nearTo
   rw[List.take_length,fold_mem]
   constructor
   · rintro(h|⟨c,hc,e⟩)
     · cases h
     · exact⟨_,e,h,List.mem_map.2 ⟨c,hc,rfl⟩⟩
   · rintro⟨i,rfl,_,hi⟩
     obtain⟨c,hc,rfl⟩:=List.mem_map.1 hi
     exact .inr ⟨c,hc,rfl⟩
theorem adj_link (T:List (List Dm)):Adj T (linkLL T T.length) where
  len:=linkLL_len T _
  mem := fun j h x => by
   rw[linkLL_len]at h
   have e:(linkLL T T.length)[j]'(by rw[linkLL_len];exact h)=linkL T j:=by simp[linkLL]
   rw[e]
   unfold linkL
   constructor
   · intro hx
     obtain⟨c,hc,rfl⟩:=List.mem_map.1 hx
     exact⟨_,rfl,h,List.mem_map.2 ⟨c,hc,rfl⟩⟩
   · rintro⟨i,rfl,_,hi⟩
     obtain⟨c,hc,rfl⟩:=List.mem_map.1 hi
     exact List.mem_map.2 ⟨c,hc,rfl⟩
def keyT (l:List Dm):Lit:= .string (tilT l).data.toList
theorem isKey_str (s:Bs):WideAt.IsKeyLit (.string s):=by unfold WideAt.IsKeyLit;trivial
def nmap (T:List (List Dm)) (k:Nat):DataW Unit:=(List.range k).foldl (fun D i=>D.put (keyT (til T i)) (.lit (.int .i64 (i:Int)))) (.map [])
theorem nmap_succ (T:List (List Dm)) (k:Nat):nmap T (k+1)=(nmap T k).put (keyT (til T k)) (.lit (.int .i64 (k:Int))):=by
 unfold nmap;rw[List.range_succ,List.foldl_append];rfl
theorem nmap_is (T:List (List Dm)):∀k,Go.Maps.IsMap (nmap T k)
  |0=>Go.Maps.isMap_empty
  |k+1=>by rw[nmap_succ];exact(nmap_is T k).put _ _
theorem keyT_ne {l m : List Dm} (hl : ∀ d ∈ l, domOk d = true) (hm : ∀ d ∈ m, domOk d = true) (h : l ≠ m) : keyT l ≠ keyT m := fun e => h (tilT_inj hl hm (by
 unfold keyT at e
 injection e with e
 exact ByteArray.ext (Array.toList_inj.1 e)))
theorem nmap_at {T:List (List Dm)} (hd:T.Nodup) (hok:∀t∈T,∀d∈t,domOk d=true) {i:Nat} (z:DataW Unit):∀k,k≤T.length→i<k→(nmap T k).atKey (keyT (til T i)) z= .lit (.int .i64 (i:Int))
  |0,_,h=>by omega
  | k + 1, hk, h => by
   rw[nmap_succ]
   by_cases e:i=k
   · subst e
     exact Go.Maps.atKey_put_same (nmap_is T i) (by unfold keyT;exact isKey_str _) _ _
   · have hi : i < T.length := by omega
     have hk':k<T.length:=by omega
     rw[Go.Maps.atKey_put_other]
     · exact nmap_at hd hok z k (by omega) (by omega)
     · rw[til_at hi,til_at hk']
       refine keyT_ne (hok _ (List.getElem_mem hi)) (hok _ (List.getElem_mem hk')) fun q=>e ?_
       exact(List.getElem_inj hd).1 q
end Go.Proofs.YtfdbcihcdjjdhaaGreatDoor
