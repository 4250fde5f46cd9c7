/- The closures of CheapestPrice and of the profile: the walks. No conditions but sizes. The profile of the program at the prices: the walk. No conditions but sizes. CheapestPrice of the program: the walk. No conditions but sizes. The profile that counts: the numbers stay small; the closures of count. No conditions but sizes. The program's count of tilings by profiles: the walk. No conditions but sizes.. Conditions, where there are any, stand in the statements. -/
import Derived.Test.YtljfoohaapckeaaGreatDoorDK9
import Derived.Test.YtljfoohaapckeaaGreatDoorDK3
import Derived.Deep.RegionHeld3
open _root_.List (getD_eq_getElem?_getD getElem?_eq_getElem replicate length_replicate getElem?_toArray getElem?_cons_zero getElem?_cons_succ)
open _root_.Option (getD_some)
open _root_.Go.Proofs.Tryz (prog func193 ntmps193 func220 ntmps220)
namespace Go.Proofs.YtljfoohaapckeaaGreatDoor
open Go.ChangeShapes Go.WideShapes Go.ChangeAt Go.RowKit
set_option linter.unusedVariables false
set_option linter.unusedSimpArgs false
set_option maxHeartbeats 4000000
set_option maxRecDepth 100000
theorem Bp {k:Nat} (hk:k<8):(2:Int)^k=((2^k:Nat):Int)/\2^k<=128:=
 ⟨by simp,Nat.le_trans (Nat.pow_le_pow_right (by decide) (show k<=7 by omega)) (by decide)⟩
def Put (r:List Int) (g B:Nat) (w:World) (e:Ending) (w':World):Prop:=e= .returned (.tuple #[])/\aC 3 1 aY B w' (.slice (some ⟨g,0,none⟩) 256 256) r/\w.grownBy w' (some g)
theorem zM (i x y:Nat) (w:World) (hi:i<=64) (hx:x=i%8) (hy:y=i/8):Calls prog 188 #[.int .i64 i] w (Ret (.agg #[.int .i64 x,.int .i64 y]) w):=by
 have:=yS i w hi;unfold gI Fp at this;rw[hx,hy];simpa using this
theorem Av:∀k:Nat,k<256->∀x:Nat,x<8->k.testBit x=true->bits .andNot .i64 (k:Int) ((2^x:Nat):Int)=((k-2^x:Nat):Int):=by decide+kernel
theorem ixy {x y:Nat} (hx:x<8) (hy:y<8):aV ((x:Int),(y:Int))=true/\(cO ((x:Int),(y:Int))).toNat=8*y+x:=by
 have hck:aV ((x:Int),(y:Int))=true:=bQ.2 ⟨⟨by omega,by omega⟩,by omega,by omega⟩;exact⟨hck,by rw[(dG hck).1];simp only;omega⟩
theorem uX (s i x y:Nat) (w:World) (hs:s<U64) (hx:x<8) (hy:y<8) (hi:i=8*y+x):Calls prog 110 #[.int .u64 s,.agg #[.int .i64 x,.int .i64 y]] w (Ret (.bool (s.testBit i)) w):=by
 have:=Ck s x y w hs;obtain⟨a,b⟩:=ixy hx hy;rw[a,b,Bool.true_and,<-hi]at this;exact this
theorem MS (s i x y:Nat) (w:World) (hs:s<U64) (hx:x<8) (hy:y<8) (hi:i=8*y+x):Calls prog 110 #[.int .u64 s,.agg #[.int .i64 x,.int .i64 ((y:Int)+1)]] w (Ret (.bool (jB s i)) w):=by
 have:=Ck s x ((y:Int)+1) w hs;by_cases h:y<7
 . obtain ⟨a, b⟩ := ixy hx (show y + 1 < 8 by omega);rw[show((y:Int)+1)=((y+1:Nat):Int) by omega,a,b,Bool.true_and]at this;have e:jB s i=s.testBit (8*(y+1)+x):=by unfold jB;rw[decide_eq_true (by omega),Bool.true_and,show i+8=8*(y+1)+x by omega]
   rw[e,show((y:Int)+1)=((y+1:Nat):Int) by omega];exact this
 . have e : jB s i = false := by unfold jB; rw [decide_eq_false (by omega), Bool.false_and]
   have c:aV ((x:Int),(y:Int)+1)=false:=by
    rcases q:aV ((x:Int),(y:Int)+1)with _|_
    . rfl
    . have:=(bQ.1 q).2;simp only at this;omega
   rw[c,Bool.false_and]at this;rw[e];exact this
theorem Js (s i x y:Nat) (w:World) (hs:s<U64) (hx:x<8) (hy:y<8) (hi:i=8*y+x):Calls prog 110 #[.int .u64 s,.agg #[.int .i64 ((x:Int)+1),.int .i64 y]] w (Ret (.bool (jC s i)) w):=by
 have:=Ck s ((x:Int)+1) y w hs;by_cases h:x<7
 . obtain ⟨a, b⟩ := ixy (show x + 1 < 8 by omega) hy;rw[show((x:Int)+1)=((x+1:Nat):Int) by omega,a,b,Bool.true_and]at this;have e:jC s i=s.testBit (8*y+(x+1)):=by unfold jC;rw[decide_eq_true (by omega),Bool.true_and,show i+1=8*y+(x+1) by omega]
   rw[e,show((x:Int)+1)=((x+1:Nat):Int) by omega];exact this
 . have e : jC s i = false := by unfold jC; rw [decide_eq_false (by omega), Bool.false_and]
   have c:aV ((x:Int)+1,(y:Int))=false:=by
    rcases q:aV ((x:Int)+1,(y:Int))with _|_
    . rfl
    . have:=(bQ.1 q).1;simp only at this;omega
   rw[c,Bool.false_and]at this;rw[e];exact this
theorem xR {K x:Nat} (hK:K<256) (hx:x<8):bits .and .i64 (K:Int) ((2^x:Nat):Int)=((K&&&2^x:Nat):Int)/\bits .or .i64 (K:Int) ((2^x:Nat):Int)=((K|||2^x:Nat):Int)/\(((K&&&2^x:Nat):Int)==0)= !K.testBit x/\(((K&&&2^x:Nat):Int) !=0)=K.testBit x/\K|||2^x<256:=by
 have h2:=(Bp hx).2;have hb:=MK K hK x hx
 have e:(((K&&&2^x:Nat):Int)==0)= !K.testBit x:=by
  rw[<-hb,Bool.eq_iff_iff,beq_iff_eq,decide_eq_true_iff];omega
 refine⟨FH K (2^x) (by omega) (by omega),vK K (2^x) (by omega) (by omega),e,?_,vS K hK x hx⟩;unfold bne;rw[e,Bool.not_not]
def PSt (W0:World) (g gc gn gb x y:Nat) (now nx:List Int) (wr:World):Prop:=
 aC 3 1 aY W0.heap.size wr (.slice (some ⟨g,0,none⟩) 256 256) now/\aC 3 1 aY W0.heap.size wr (.slice (some ⟨gn,0,none⟩) 256 256) nx/\Blk wr gc 70 #[.int .i64 x,.int .i64 y]/\Blk wr gb 24 #[.slice (some ⟨gn,0,none⟩) 256 256]/\g≠gn/\Below W0.heap.size W0 wr
section
variable {W0 wr w' : World} {g gc gn gb x y : Nat} {now nx : List Int}
theorem PSt.bl (h:PSt W0 g gc gn gb x y now nx wr) (hb:Below wr.heap.size wr w'):PSt W0 g gc gn gb x y now nx w':=by
 obtain⟨a,b,c,d,e,f⟩:=h;exact⟨a.below hb,b.below hb,c.bl hb,d.bl hb,e,f.tr hb⟩
theorem PSt.put (h:PSt W0 g gc gn gb x y now nx wr) {r:List Int} (own:aC 3 1 aY W0.heap.size w' (.slice (some ⟨gn,0,none⟩) 256 256) r) (hg:wr.grownBy w' (some gn)):PSt W0 g gc gn gb x y now r w':=by
 obtain⟨a,b,c,d,e,f⟩:=h;have hc:gc≠gn:=by intro q;have:=b.apart c (by decide);rw[q]at this;exact this rfl
 have hd:gb≠gn:=by intro q;have:=b.apart d (by decide);rw[q]at this;exact this rfl
 refine⟨World.ownsRow.kept a hg (.inr (by simp[Value.ownBlock];exact e)),own,c.grown hg (by simpa using hc),d.grown hg (by simpa using hd),e,f.grown hg f.size (fun k hk=> ?_)⟩;injection hk with hk;rw[<-hk];exact b.at_.2.1
end
def Jt (nx:List Int):Prop:=∀(j:Nat) (v:Int),nx[j]? =some v->0<=v/\v<=1125899906842624
theorem Bq (s i:Nat):aX s (i+1)=kQ s 0 (fun a b=>a+b) (fun n _=>n) (aX s i) i 256:=rfl
theorem Ju {l : List Int} (hn : ∀ (k : Nat) (v : Int), l[k]? = some v -> 0 <= v) : ∀ K d, kD (fun _ => 1) l K <= kD (fun _ => 1) l (K + d)
  |K,0=>Int.le_refl _
  | K, d + 1 => by
   have h:=Ju hn K d;rw[<-Nat.add_assoc,iR]
   have hg:0<=l.getD (K+d) 0:=by
    rw[getD_eq_getElem?_getD];rcases q:l[K+d]? with _|v
    . simp
    . exact hn _ v q
   omega
theorem Br (s i K : Nat) (hi : i < 64) (hK : K < 256) : (∀ (j : Nat) (v : Int), (kQ s 0 (fun a b => a + b) (fun n _ => n) (aX s i) i K)[j]? = some v -> 0 <= v) /\ kD (fun _ => 1) (kQ s 0 (fun a b => a + b) (fun n _ => n) (aX s i) i K) 256 + (aX s i).getD K 0 * two i <= 562949953421312 := by
 obtain⟨a,b⟩:=Mt s i;obtain⟨c,d⟩:=I5 (s:=s) (i:=i) a (uW i) K (by omega);refine⟨c,?_⟩;have e:kD (fun _=>1) (aX s i) (K+1)*two i=kD (fun _=>1) (aX s i) K*two i+(aX s i).getD K 0*two i:=by rw[iR,Int.add_mul];simp
 have h1:=Ju a (K+1) (256-(K+1));rw[show K+1+(256-(K+1))=256 by omega]at h1;have h2:kD (fun _=>1) (aX s i) (K+1)*two i<=capOf i*two i:=Int.mul_le_mul_of_nonneg_right (Int.le_trans h1 b) (by have:=(wO i).1;omega);have h3:capOf i*two i=capOf (i+1):=rfl;have h4:=Cs (i+1) (64-(i+1));rw[show i+1+(64-(i+1))=64 by omega,Mi]at h4;omega
theorem yL (s i K : Nat) (hi : i < 64) (hK : K < 256) : Jt (kQ s 0 (fun a b => a + b) (fun n _ => n) (aX s i) i K) := by
 obtain⟨c,d⟩:=Br s i K hi hK;have hn:=(I6 s i K (by omega) hK).1;have ht:=(wO i).1;have hm:0<=(aX s i).getD K 0*two i:=Int.mul_nonneg hn (by omega);intro j v hj;have hl:=kK (s:=s) (no:=0) (add:=fun a b=>a+b) (wt:=fun n _=>n) (aX s i) i K;have hj2:j<256:=by rw[<-hl];exact(List.getElem?_eq_some_iff.1 hj).1
 have h1:=(xQ c 256 j hj2).1;rw[getD_eq_getElem?_getD,hj,getD_some]at h1;exact⟨c j v hj,by omega⟩
theorem Gm (s i K : Nat) (hi : i < 64) (hK : K < 256) : Jt (pK s 0 (fun a b => a + b) (fun n _ => n) i (kQ s 0 (fun a b => a + b) (fun n _ => n) (aX s i) i K) K ((aX s i).getD K 0)) := by
 have h:=yL s i K hi hK;have hn:=I6 s i K (by omega) hK;obtain⟨c,d⟩:=Br s i K hi hK;have hl:=kK (s:=s) (no:=0) (add:=fun a b=>a+b) (wt:=fun n _=>n) (aX s i) i K;have ht:=(wO i).1;have hm:(aX s i).getD K 0*1<=(aX s i).getD K 0*two i:=Int.mul_le_mul_of_nonneg_left ht hn.1;rw[Int.mul_one]at hm;unfold pK;split
 . refine yH (P := fun _ v => 0 <= v /\ v <= 1125899906842624) h ?_ (fun _ => ⟨hn.1, by show (aX s i).getD K 0 <= _; omega⟩) ?_
   . rw[hl];exact vS K hK _ (by omega)
   . intro v hv _;have hj2:(K|||2^(i%8))<256:=vS K hK _ (by omega);have h1:=(xQ c 256 _ hj2).1;rw[getD_eq_getElem?_getD,hv,getD_some]at h1;have:=c _ v hv;exact⟨by show 0<=v+(aX s i).getD K 0;omega,by show v+(aX s i).getD K 0<=_;omega⟩
 . exact h
theorem Jv (s i k:Nat) (hi:i<64) (hk:k<256) (v:Int) (h:(aX s i)[k]? =some v):v=0∨(0<=v/\v<=1125899906842624/\fQ s i k):=by
 have h1:=I6 s i k (by omega) hk;rw[getD_eq_getElem?_getD,h,getD_some]at h1;rcases Ms s i k v h with h2|h2
 . exact .inl h2
 . exact .inr ⟨h1.1,by omega,h2⟩
theorem K9 (a b:Int) (w:World) (h0:0<=a) (h1:a<=1125899906842624) (h2:0<=b) (h3:b<=1125899906842624):Calls prog 192 #[.int .i64 a,.int .i64 b] w (Pure (.int .i64 (a+b)) w):=by
 go_enter Tryz.func192,Tryz.ntmps192
 go_wp2;go_ret;exact⟨rfl,rfl⟩
theorem Ct (n x y:Int) (d:Bool) (w:World) (hx:0<=x):
 Calls prog 193 #[.int .i64 n,.agg #[.int .i64 x,.int .i64 y,.bool d]] w (Ret (.int .i64 n) w):=by
 go_enter func193,ntmps193
 go_wp2;go_ret;exact⟨rfl,(Below.refl _ _).al _⟩
theorem Il (n:Int) (w:World):
 Calls prog 193 #[.int .i64 n,.agg #[.int .i64 (-1),.int .i64 0,.bool false]] w (Ret (.int .i64 1) w):=by
 go_enter func193,ntmps193
 go_wp2;go_ret;exact⟨rfl,(Below.refl _ _).al _⟩
theorem uC (k:Nat) (n:Int) (g gn g0 ga B:Nat) (nx:List Int) (w:World) (hk:k<256) (hbd:Hid (Jt nx)) (hn:0<=n/\n<=1125899906842624) (Hl:Hid (nx.length=256)) (own:aC 3 1 aY B w (.slice (some ⟨g,0,none⟩) 256 256) nx) (bn:Blk w gn 24 #[.slice (some ⟨g,0,none⟩) 256 256]) (b0:Blk w g0 3 #[.int .i64 0]) (hg0:g0≠g) (ba:Blk w ga 187 #[.func (.func 192) #[] #[]]):
 Calls prog 220 #[.int .i64 k,.int .i64 n,.pointer (some ⟨gn,0,none⟩),.pointer (some ⟨g0,0,none⟩),.pointer (some ⟨ga,0,none⟩)] w (Put (fG 0 (fun a b=>a+b) nx k n) g B w):=by
 have hkl:k<nx.length:=by rw[Hl.out];exact hk
 have hgn:gn≠g:=by intro e;have:=own.apart bn (by decide);rw[e]at this;exact this rfl
 have hga:ga≠g:=by intro e;have:=own.apart ba (by decide);rw[e]at this;exact this rfl
 have zk:=own.slot aL Nat.one_pos hkl 0 (.int .i64 nx[k]) rfl;rw[Nat.mul_one,Nat.add_zero]at zk;have hv:nx.getD k 0=nx[k]:=(by rw[getD_eq_getElem?_getD,getElem?_eq_getElem hkl,getD_some]);have hsf:=own.free;have zn:=bn.c1;have z0:=b0.c1;have za:=ba.c1;have hkI:(k:Int)<256:=(by omega);have hk0:(0:Int)<=(k:Int):=(by omega);have hR:fG 0 (fun a b=>a+b) nx k n=nx.set k (if nx[k]=0 then n else nx[k]+n):=by unfold fG;rw[hv]
 rw[hR];obtain⟨v,hve⟩:=Oy (nx[k]);have hv0:0<=v/\v<=1125899906842624:=hve▸hbd.out k _ (getElem?_eq_getElem hkl)
 rw[<-hve]at zk⊢;clear hv hR hve;by_cases h1:v=0
 . subst h1;rw[if_pos rfl];go_enter func220,ntmps220
   go_wp2_with fail
   go_quiet (fail)
   go_wp2;go_end0
   exact⟨rfl,(own.drewN _).iJ aL hkl rfl,dI (tV (World.grownBy.refl _ _) _) _ _⟩
 . have h1b : (v == 0) = false := by simpa using h1
   rw[if_neg h1];have H1:=OA h1;clear h1;go_enter func220,ntmps220
   go_wp2_with fail
   go_quiet (fail)
   have zkd:(w.drewN nq).cell? ⟨g,k,none⟩=some (.int .i64 v):=zk;have znd:(w.drewN nq).cell? ⟨gn,0,none⟩=some (.slice (some ⟨g,0,none⟩) 256 256):=zn;have zad:(w.drewN nq).cell? ⟨ga,0,none⟩=some (.func (.func 192) #[] #[]):=za;have hsfd:∀j,(w.drewN nq).frozen? ⟨g,j,none⟩=false:=hsf;have ownd:=own.drewN nq;have hgr:=tV (World.grownBy.refl w (some g)) nq;clear zk zn za hsf;obtain⟨wd,hwd⟩:=Oy (w.drewN nq);rw[<-hwd]at zkd znd zad hsfd ownd hgr⊢;have hgn2:=hgn.symm;have hga2:=hga.symm;clear hwd;go_wp2_with fail
   refine rB (fun w'=>w'.cell? ⟨gn,0,none⟩=some (.slice (some ⟨g,0,none⟩) 256 256)/\w'.cell? ⟨ga,0,none⟩=some (.func (.func 192) #[] #[])) fun hHeld=>(tW 0)<|(tW 1)<|(tW 2)<|(tW 3)<|(tW 4)<|(tW 5)<|(tW 7)<|(tR [6])<|tL fun K hK=>?_
   go_simp
   refine tK hK fun hHeld=>?_
   clear hK K;refine(tR [8])<|tL fun K hK=>?_
   go_simp
   (go_at_call 192;go_must (refine(K9 v n _ hv0.1 hv0.2 hn.1 hn.2).mono ?_;rintro e wX ⟨rfl,rfl⟩);(try go_wp2_with fail))
   refine tK hK fun hHeld=>?_
   clear hK K;refine(tW 9)<|(tR [10])<|tL fun K hK=>?_
   go_simp
   refine tK hK fun hHeld=>?_
   clear hK K;refine tD ?_;go_wp2;go_end0
   exact⟨rfl,(ownd.drewN 1).iJ aL hkl rfl,dI (tV hgr 1) _ _⟩
theorem Kh (s:Nat) (w:World) (hs:s<U64):
 Calls prog 191 #[.int .u64 s,.int .i64 0,.func (.func 192) #[] #[],.func (.func 193) #[] #[]] w (Ret (.int .i64 ((aX s 64).getD 0 0)) w):=by
 have hA:=((Below.refl w.heap.size w).al (.cells #[.int .i64 0] 3)).al (.cells #[.func (.func 192) #[] #[]] 187);have b0:=(Blk.bK w 3 #[.int .i64 0]).alloc (.cells #[.func (.func 192) #[] #[]] 187);have ba:=Blk.iV (w.alloc (.cells #[.int .i64 0] 3)) 187 #[.func (.func 192) #[] #[]] (w.heap.size+1) (by simp);have h256:Hid ((256:Int)=((256:Nat):Int)):=OA rfl;have B0:=Below.refl ((w.alloc (.cells #[.int .i64 0] 3)).alloc (.cells #[.func (.func 192) #[] #[]] 187)).heap.size ((w.alloc (.cells #[.int .i64 0] 3)).alloc (.cells #[.func (.func 192) #[] #[]] 187));obtain⟨R,hR⟩:=Oy ((aX s 64).getD 0 0);rw[<-hR];have HR:=OA hR;clear hR;go_enter Tryz.func191,Tryz.ntmps191
 go_wp2_with (at_make;go_must (refine kS (enc:=aY) (z0:=(0:Int)) fA rfl B0 256 (by decide) (by decide) _ h256.out rfl _ _ rfl rfl rfl ?_);intro w1 hown1 hb1 hg1)
 go_loopw [22] (fun s22 wr=>∃(k:Nat) (m:List Int),k<=256/\s22= .int .i64 k/\Ay k m (replicate 256 (0:Int))/\aC 3 1 aY ((w.alloc (.cells #[.int .i64 0] 3)).alloc (.cells #[.func (.func 192) #[] #[]] 187)).heap.size wr (.slice (some ⟨w.heap.size+1+1,0,none⟩) 256 256) m/\Below ((w.alloc (.cells #[.int .i64 0] 3)).alloc (.cells #[.func (.func 192) #[] #[]] 187)).heap.size ((w.alloc (.cells #[.int .i64 0] 3)).alloc (.cells #[.func (.func 192) #[] #[]] 187)) wr) (fun i _=>256-(intOf i).toNat)
 case atStart=>exact⟨0,replicate 256 0,by omega,rfl,Ay.start _ _ rfl,by simpa using hown1,hb1⟩
 case round=>
  obtain⟨k,m,hk,rfl,hu,hown,hbel⟩:=hrel;have b0r:=b0.bl hbel;have z0:=b0r.c1;have hml:m.length=256:=(by rw[hu.1,length_replicate]);by_cases hlt:k<256
  . obtain ⟨u0, s0⟩ := hown.Az aL (k := k) (by rw [hml]; exact hlt);have hsf:=hown.free;have Hml:=OA hml;clear hml;have hst:=hu.step (by rw[length_replicate];exact hlt);rw[List.getElem_replicate]at hst;have Hu:=OA hst;clear hu hst;go_wp2;go_roundw
    case rel=>exact⟨k+1,_,by omega,by go_num,Hu.out,hown.iJ aL (by rw[Hml.out];exact hlt) rfl,hbel.st _ _ (by simp)⟩
    case measure=>simp[intOf];omega
  . obtain rfl : k = 256 := by omega
    obtain rfl:=hu.done (by rw[length_replicate];omega);clear hown1 hb1 hg1 hu hml;go_wp2_with fail
    refine(Il _ _).mono ?_;rintro e w2 ⟨rfl,hb2⟩;have own2:=hown.below hb2;have hl0:0<(replicate 256 (0:Int)).length:=by rw[length_replicate];decide
    obtain⟨u2,s2⟩:=own2.Az aL hl0;have hsf2:=own2.free;have B2:=hbel.tr hb2;have own3:=own2.iJ aL hl0 (y:=1) rfl;have e0:aX s 0=(replicate 256 (0:Int)).set 0 1:=rfl;rw[<-e0]at own3;have B3:=B2.st ⟨w.heap.size+1+1,0,none⟩ (.int .i64 1) (by simp);clear z0 e0 hl0;go_wp2;go_loopw [9,36] (fun s9 s36 wr=>∃(i g:Nat),i<=64/\s36= .int .i64 i/\s9= .slice (some ⟨g,0,none⟩) 256 256/\aC 3 1 aY ((w.alloc (.cells #[.int .i64 0] 3)).alloc (.cells #[.func (.func 192) #[] #[]] 187)).heap.size wr (.slice (some ⟨g,0,none⟩) 256 256) (aX s i)/\Below ((w.alloc (.cells #[.int .i64 0] 3)).alloc (.cells #[.func (.func 192) #[] #[]] 187)).heap.size ((w.alloc (.cells #[.int .i64 0] 3)).alloc (.cells #[.func (.func 192) #[] #[]] 187)) wr) (fun _ i _=>64-(intOf i).toNat)
    case atStart=>exact⟨0,w.heap.size+1+1,by omega,rfl,rfl,own3,B3⟩
    case round=>
     obtain⟨i,g,hi,rfl,rfl,hnow,hbel2⟩:=hrel;clear own3 B3 B2 own2 s2 hsf2 hb2 hown hbel b0r;by_cases hi64:i<64
     . obtain⟨x,hx⟩:=Oy (i%8);obtain⟨y,hy⟩:=Oy (i/8);have hx8:x<8:=(by omega);have hy8:y<8:=(by omega);have Hx:=OA hx;have Hy:=OA hy;clear hx hy;go_wp2_with fail
       refine(zM i x y _ (by omega) Hx.out Hy.out).mono ?_;rintro e w3 ⟨rfl,hb3⟩;have B4:=(hbel2.tr hb3).al (.cells #[.int .i64 x,.int .i64 y] 70);have bC:=Blk.bK w3 70 #[.int .i64 x,.int .i64 y];have now4:=(hnow.below hb3).alloc (.cells #[.int .i64 x,.int .i64 y] 70);go_wp2_with (at_make;go_must (refine kS (enc:=aY) (z0:=(0:Int)) fA rfl B4 256 (by decide) (by decide) _ h256.out rfl _ _ rfl rfl rfl ?_);intro w4 hown4 hb4 hg4)
       have st4:PSt ((w.alloc (.cells #[.int .i64 0] 3)).alloc (.cells #[.func (.func 192) #[] #[]] 187)) g w3.heap.size (w3.heap.size+1) w4.heap.size x y (aX s i) (replicate 256 0) (w4.alloc (.cells #[.slice (some ⟨w3.heap.size+1,0,none⟩) 256 256] 24)):=by
        have hgl:=(hnow.below hb3).at_.2.2;refine⟨(World.ownsRow.kept now4 hg4 (.inr (by simp[Value.ownBlock]))).alloc _,(by simpa using hown4:aC 3 1 aY ((w.alloc (.cells #[.int .i64 0] 3)).alloc (.cells #[.func (.func 192) #[] #[]] 187)).heap.size w4 (.slice (some ⟨w3.heap.size+1,0,none⟩) 256 256) (replicate 256 0)).alloc _,(bC.grown hg4 (by simp)).alloc _,Blk.bK _ _ _,by omega,hb4.al _⟩
       have hm:Ay 0 (replicate 256 (0:Int)) (replicate 256 (0:Int)):=Ay.start _ _ rfl;obtain⟨gc,hgc⟩:=Oy w3.heap.size;obtain⟨gb,hgb⟩:=Oy w4.heap.size;obtain⟨gn,hgn⟩:=Oy (w3.heap.size+1);rw[<-hgn,<-hgc,<-hgb]at st4;have Hgc:=OA hgc;have Hgb:=OA hgb;have Hgn:=OA hgn;go_wp2;try rw[<-hgn]
       try rw[<-hgc]
       try rw[<-hgb]
       clear hgc hgb hgn;go_loopw [44] (fun s44 wr=>∃(k:Nat) (m:List Int),k<=256/\s44= .int .i64 k/\Ay k m (replicate 256 (0:Int))/\PSt ((w.alloc (.cells #[.int .i64 0] 3)).alloc (.cells #[.func (.func 192) #[] #[]] 187)) g gc gn gb x y (aX s i) m wr) (fun i _=>256-(intOf i).toNat)
       case atStart=>exact⟨0,_,by omega,rfl,hm,st4⟩
       case round=>
        obtain⟨k,m,hk,rfl,hu,hst⟩:=hrel;clear st4 hm hnow hbel2 now4 hown4 hb4 hg4 B4 bC;obtain⟨oA,oN,bC,bB,hgg,hbl⟩:=hst;have hst:PSt ((w.alloc (.cells #[.int .i64 0] 3)).alloc (.cells #[.func (.func 192) #[] #[]] 187)) g gc gn gb x y (aX s i) m wr:=⟨oA,oN,bC,bB,hgg,hbl⟩;have b0r:=b0.bl hbl;have z0:=b0r.c1;have zB:=bB.c1;have hml:m.length=256:=(by rw[hu.1,length_replicate]);by_cases hlt:k<256
        . obtain ⟨u0, s0⟩ := oN.Az aL (k := k) (by rw [hml]; exact hlt);have hsf:=oN.free;have Hml:=OA hml;clear hml;have hst2:=hu.step (by rw[length_replicate];exact hlt);rw[List.getElem_replicate]at hst2;have Hu:=OA hst2;clear hu hst2;have hcl:=oN.iJ aL (k:=k) (y:=0) (by rw[Hml.out];exact hlt) rfl;go_wp2;go_roundw
          case rel=>exact⟨k+1,_,by omega,by go_num,Hu.out,hst.put hcl (dI (World.grownBy.refl _ _) _ _)⟩
          case measure=>simp[intOf];omega
        . obtain rfl : k = 256 := by omega
          obtain rfl:=hu.done (by rw[length_replicate];omega);have zc0:=bC.cell 0;have zc1:=bC.cell 1;simp only[getElem?_toArray,getElem?_cons_zero,getElem?_cons_succ]at zc0 zc1;have hpow:=Bp hx8;obtain⟨P,hP⟩:=Oy (2^x);rw[<-hP]at hpow;obtain⟨hp2,hp8⟩:=hpow;have HP:=OA hP;clear hu hml hP z0;rw[show((256:Nat):Int)=256 from rfl];go_wp2;go_loopw [58] (fun s58 wr=>∃(K:Nat) (nx:List Int),K<=256/\s58= .int .i64 K/\Hid (nx=kQ s 0 (fun a b=>a+b) (fun n _=>n) (aX s i) i K)/\PSt ((w.alloc (.cells #[.int .i64 0] 3)).alloc (.cells #[.func (.func 192) #[] #[]] 187)) g gc gn gb x y (aX s i) nx wr) (fun i _=>256-(intOf i).toNat)
          case atStart=>exact⟨0,_,by omega,rfl,OA (by unfold kQ;rw[List.range_zero];rfl),hst⟩
          case round=>
           obtain⟨K,nx,hK,rfl,Hnx,hst'⟩:=hrel;clear hst oA oN bC bB hbl b0r zB zc0 zc1;have hst:=hst';obtain⟨oA,oN,bC,bB,hgg2,hbl⟩:=hst';have b0r:=b0.bl hbl;have bar:=ba.bl hbl;have zc0:=bC.cell 0;have zc1:=bC.cell 1;simp only[getElem?_toArray,getElem?_cons_zero,getElem?_cons_succ]at zc0 zc1;have z0:=b0r.c1;by_cases hlt:K<256
           . have hil : K < (aX s i).length := by unfold aX; rw [uW]; exact hlt
             have zK:=oA.slot aL Nat.one_pos hil 0 (.int .i64 (aX s i)[K]) rfl;rw[Nat.mul_one,Nat.add_zero]at zK;have hgood:=Jv s i K hi64 hlt _ (getElem?_eq_getElem hil);have hgD:(aX s i).getD K 0=(aX s i)[K]:=(by rw[getD_eq_getElem?_getD,getElem?_eq_getElem hil,getD_some]);obtain⟨n,hn⟩:=Oy ((aX s i)[K]);rw[<-hn]at zK hgood hgD;have HnD:=OA hgD;clear hn hgD;by_cases hn1:n=0
             . subst hn1;have Heq:Hid (iP s 0 (fun a b=>a+b) (fun n _=>n) i nx K 0=nx):=OA (by unfold iP;rw[if_pos rfl]);clear hgood;go_wp2;go_roundw
               case rel=>exact⟨K+1,_,by omega,by go_num,OA (by rw[dA,<-Hnx.out,HnD.out];exact Heq.out.symm),hst⟩
               case measure=>simp[intOf];omega
             . have hn1b : (n == 0) = false := by simpa using hn1
               obtain⟨hn0,hnB,hov⟩:=hgood.resolve_left hn1;have hi8:i=8*y+x:=by have:=Hx.out;have:=Hy.out;omega
               have Hi:=OA hi8;have hnx:nx.length=256:=(by rw[Hnx.out,kK]);have Hnl:=OA hnx;have HbR:Hid (Jt nx):=OA (by rw[Hnx.out];exact yL s i K hi64 hlt);have HbD:Hid (Jt (pK s 0 (fun a b=>a+b) (fun n _=>n) i nx K n)):=OA (by rw[<-HnD.out,Hnx.out];exact Gm s i K hi64 hlt);have hnn:0<=n/\n<=1125899906842624:=⟨hn0,hnB⟩;obtain⟨a1,a2,a3,a4,a5⟩:=xR hlt hx8;rw[<-HP.out]at a1 a2 a3 a4 a5;have hover:K.testBit (i%8)=true->s.testBit i=true:=fun q=>Cr hov q
               have hone : iP s 0 (fun a b => a + b) (fun n _ => n) i nx K n = if s.testBit i then (if K.testBit x then fG 0 (fun a b => a + b) nx (K - P) n else vR s 0 (fun a b => a + b) (fun n _ => n) i (pK s 0 (fun a b => a + b) (fun n _ => n) i nx K n) K n) else (if K.testBit x then nx else fG 0 (fun a b => a + b) nx K n) := by
                unfold iP;rw[if_neg hn1,<-Hx.out,<-HP.out]
               rw[<-Hx.out]at hover;have Hov:=OA hov;have Hn1:=OA hn1;have hg0:w.heap.size≠gn:=by have:=oN.at_.2.1;simp at this;omega
               have hpc:gc<wr.heap.size:=bC.lt;have hz0:wr.heap.size<=wr.heap.size:=Nat.le_refl _;clear hov hn1 hnx hi8;rcases hB:s.testBit i with _|_
               . rcases hbk:K.testBit x with _|_
                 . rw[hB,hbk]at hone;rw[hbk]at a3 a4;have Hone:=OA hone;have HB:=OA hB;have Hbk:=OA hbk;clear hone hB hbk hover;go_wp2_with fail
                   refine(uX s i x y _ hs hx8 hy8 Hi.out).mono ?_;rintro e w4 ⟨rfl,hb4⟩;rw[HB.out];obtain⟨hc4,hf4,hz4⟩:=bkn hb4 _ hz0;have st4:=hst.bl hb4;go_wp2_with fail
                   refine(uC K n gn gb w.heap.size (w.heap.size+1) _ nx _ hlt HbR hnn Hnl st4.2.1 st4.2.2.2.1 (b0r.bl hb4) hg0 (bar.bl hb4)).mono ?_;rintro e w5 ⟨rfl,own5,hg5⟩;have Heq:Hid (iP s 0 (fun a b=>a+b) (fun n _=>n) i nx K n=fG 0 (fun a b=>a+b) nx K n):=OA (by rw[Hone.out];rfl);go_wp2;go_roundw
                   case rel=>exact⟨K+1,_,by omega,by go_num,OA (by rw[dA,<-Hnx.out,HnD.out];exact Heq.out.symm),st4.put own5 hg5⟩
                   case measure=>simp[intOf];omega
                 . exact absurd (hover hbk) (by rw[hB];simp)
               . rcases hbk:K.testBit x with _|_
                 . rw[hB,hbk]at hone;rw[hbk]at a3 a4;have Hone:=OA hone;have HB:=OA hB;have Hbk:=OA hbk;clear hone hB hbk hover;go_wp2_with fail
                   refine(uX s i x y _ hs hx8 hy8 Hi.out).mono ?_;rintro e w4 ⟨rfl,hb4⟩;rw[HB.out];obtain⟨hc4,hf4,hz4⟩:=bkn hb4 _ hz0;go_wp2_with fail
                   refine(uX s i x y _ hs hx8 hy8 Hi.out).mono ?_;rintro e w5 ⟨rfl,hb5⟩;rw[HB.out];obtain⟨hc5,hf5,hz5⟩:=bkn hb5 _ hz4;go_wp2_with fail
                   refine(uX s i x y _ hs hx8 hy8 Hi.out).mono ?_;rintro e w6 ⟨rfl,hb6⟩;rw[HB.out];obtain⟨hc6,hf6,hz6⟩:=bkn hb6 _ hz5;go_wp2_with fail
                   refine(MS s i x y _ hs hx8 hy8 Hi.out).mono ?_;rintro e w7 ⟨rfl,hb7⟩;have st7:=(((hst.bl hb4).bl hb5).bl hb6).bl hb7;rcases hd:jB s i with _|_
                   . have Hdn : Hid (pK s 0 (fun a b => a + b) (fun n _ => n) i nx K n = nx) := OA (by unfold pK; rw [hd]; rfl);clear hd hc4 hc5 hc6 hf4 hf5 hf6 zc0 zc1;have stR:PSt ((w.alloc (.cells #[.int .i64 0] 3)).alloc (.cells #[.func (.func 192) #[] #[]] 187)) g gc gn gb x y (aX s i) nx w7:=st7;obtain⟨oAR,oNR,bCR,bBR,hggR,hblR⟩:=stR;have stR:PSt ((w.alloc (.cells #[.int .i64 0] 3)).alloc (.cells #[.func (.func 192) #[] #[]] 187)) g gc gn gb x y (aX s i) nx w7:=⟨oAR,oNR,bCR,bBR,hggR,hblR⟩;have zc0R:=bCR.cell 0;have zc1R:=bCR.cell 1;simp only[getElem?_toArray,getElem?_cons_zero,getElem?_cons_succ]at zc0R zc1R;have hpcR:=bCR.lt;have hzR:w7.heap.size<=w7.heap.size:=Nat.le_refl _;have hRl:Hid ((nx:List Int).length=256):=OA Hnl.out;go_wp2_with fail
                     refine(Js s i x y _ hs hx8 hy8 Hi.out).mono ?_;rintro e w10 ⟨rfl,hb10⟩;obtain⟨hc10,hf10,hz10⟩:=bkn hb10 _ hzR;have st10:=stR.bl hb10;rcases hr:jC s i with _|_
                     . have Heq : Hid (iP s 0 (fun a b => a + b) (fun n _ => n) i nx K n = nx) := OA (by rw [Hone.out, Hdn.out]; unfold vR; rw [hr]; rfl);clear hr;go_wp2;go_roundw
                       case rel=>exact⟨K+1,_,by omega,by go_num,OA (by rw[dA,<-Hnx.out,HnD.out];exact Heq.out.symm),st10⟩
                       case measure=>simp[intOf];omega
                     . have hx7 : x < 7 := by have := Hx.out; unfold jC at hr; rw [Bool.and_eq_true, decide_eq_true_iff] at hr; omega
                       obtain⟨c1,c2,c3,c4,c5⟩:=xR hlt (show x+1<8 by omega);have hP2:2^(x+1)=P*2:=(by rw[Nat.pow_succ,HP.out]);rw[hP2]at c1 c2 c3 c4 c5;rw[show((P*2:Nat):Int)=(P:Int)*2 by omega]at c1 c2;have Hr:=OA hr;have HP2:=OA hP2;clear hr hP2;rcases hk1:K.testBit (x+1)with _|_
                       . rw[hk1]at c3 c4
                         have Heq : Hid (iP s 0 (fun a b => a + b) (fun n _ => n) i nx K n = fG 0 (fun a b => a + b) nx (K ||| P * 2) n) := OA (by
                          rw[Hone.out,Hdn.out];unfold vR;rw[Hr.out,<-Hx.out,hk1,HP2.out,show dW i=((x:Int),(y:Int),false) by unfold dW;rw[<-Hx.out,<-Hy.out]];rfl)
                         clear hk1;go_wp2_with fail
                         refine(Ct n x y false _ (by omega)).mono ?_;rintro e w11 ⟨rfl,hb11⟩;have st11:=st10.bl hb11;have bl11:=st11.2.2.2.2.2;go_wp2_with fail
                         refine(uC (K|||P*2) n gn gb w.heap.size (w.heap.size+1) _ nx _ c5 (OA (by rw[<-Hdn.out];exact HbD.out)) hnn hRl st11.2.1 st11.2.2.2.1 (b0.bl bl11) hg0 (ba.bl bl11)).mono ?_;rintro e w12 ⟨rfl,own12,hg12⟩;go_wp2;go_roundw
                         case rel=>exact⟨K+1,_,by omega,by go_num,OA (by rw[dA,<-Hnx.out,HnD.out];exact Heq.out.symm),st11.put own12 hg12⟩
                         case measure=>simp[intOf];omega
                       . rw[hk1]at c3 c4;have Heq:Hid (iP s 0 (fun a b=>a+b) (fun n _=>n) i nx K n=nx):=OA (by rw[Hone.out,Hdn.out];unfold vR;rw[Hr.out,<-Hx.out,hk1];rfl);clear hk1;go_wp2;go_roundw
                         case rel=>exact⟨K+1,_,by omega,by go_num,OA (by rw[dA,<-Hnx.out,HnD.out];exact Heq.out.symm),st10⟩
                         case measure=>simp[intOf];omega
                   . obtain⟨hc7,hf7,hz7⟩:=bkn hb7 _ hz6
                     have Hdn : Hid (pK s 0 (fun a b => a + b) (fun n _ => n) i nx K n = fG 0 (fun a b => a + b) nx (K ||| P) n) := OA (by
                      unfold pK;rw[hd,<-Hx.out,<-HP.out,show eY i=((x:Int),(y:Int),true) by unfold eY;rw[<-Hx.out,<-Hy.out]];rfl)
                     clear hd;have bl7:=st7.2.2.2.2.2;go_wp2_with fail
                     refine(Ct n x y true _ (by omega)).mono ?_;rintro e w8 ⟨rfl,hb8⟩;have st8:=st7.bl hb8;have bl8:=st8.2.2.2.2.2;go_wp2_with fail
                     refine(uC (K|||P) n gn gb w.heap.size (w.heap.size+1) _ nx _ a5 HbR hnn Hnl st8.2.1 st8.2.2.2.1 (b0.bl bl8) hg0 (ba.bl bl8)).mono ?_;rintro e w9 ⟨rfl,own9,hg9⟩;have st9:=st8.put own9 hg9;clear hc4 hc5 hc6 hc7 hf4 hf5 hf6 hf7 zc0 zc1;have stR:PSt ((w.alloc (.cells #[.int .i64 0] 3)).alloc (.cells #[.func (.func 192) #[] #[]] 187)) g gc gn gb x y (aX s i) (fG 0 (fun a b=>a+b) nx (K|||P) n) w9:=st9;obtain⟨oAR,oNR,bCR,bBR,hggR,hblR⟩:=stR;have stR:PSt ((w.alloc (.cells #[.int .i64 0] 3)).alloc (.cells #[.func (.func 192) #[] #[]] 187)) g gc gn gb x y (aX s i) (fG 0 (fun a b=>a+b) nx (K|||P) n) w9:=⟨oAR,oNR,bCR,bBR,hggR,hblR⟩;have zc0R:=bCR.cell 0;have zc1R:=bCR.cell 1;simp only[getElem?_toArray,getElem?_cons_zero,getElem?_cons_succ]at zc0R zc1R;have hpcR:=bCR.lt;have hzR:w9.heap.size<=w9.heap.size:=Nat.le_refl _;have hRl:Hid (((fG 0 (fun a b=>a+b) nx (K|||P) n):List Int).length=256):=OA (by rw[pU,Hnl.out]);go_wp2_with fail
                     refine(Js s i x y _ hs hx8 hy8 Hi.out).mono ?_;rintro e w10 ⟨rfl,hb10⟩;obtain⟨hc10,hf10,hz10⟩:=bkn hb10 _ hzR;have st10:=stR.bl hb10;rcases hr:jC s i with _|_
                     . have Heq : Hid (iP s 0 (fun a b => a + b) (fun n _ => n) i nx K n = (fG 0 (fun a b => a + b) nx (K ||| P) n)) := OA (by rw [Hone.out, Hdn.out]; unfold vR; rw [hr]; rfl);clear hr;go_wp2;go_roundw
                       case rel=>exact⟨K+1,_,by omega,by go_num,OA (by rw[dA,<-Hnx.out,HnD.out];exact Heq.out.symm),st10⟩
                       case measure=>simp[intOf];omega
                     . have hx7 : x < 7 := by have := Hx.out; unfold jC at hr; rw [Bool.and_eq_true, decide_eq_true_iff] at hr; omega
                       obtain⟨c1,c2,c3,c4,c5⟩:=xR hlt (show x+1<8 by omega);have hP2:2^(x+1)=P*2:=(by rw[Nat.pow_succ,HP.out]);rw[hP2]at c1 c2 c3 c4 c5;rw[show((P*2:Nat):Int)=(P:Int)*2 by omega]at c1 c2;have Hr:=OA hr;have HP2:=OA hP2;clear hr hP2;rcases hk1:K.testBit (x+1)with _|_
                       . rw[hk1]at c3 c4
                         have Heq : Hid (iP s 0 (fun a b => a + b) (fun n _ => n) i nx K n = fG 0 (fun a b => a + b) (fG 0 (fun a b => a + b) nx (K ||| P) n) (K ||| P * 2) n) := OA (by
                          rw[Hone.out,Hdn.out];unfold vR;rw[Hr.out,<-Hx.out,hk1,HP2.out,show dW i=((x:Int),(y:Int),false) by unfold dW;rw[<-Hx.out,<-Hy.out]];rfl)
                         clear hk1;go_wp2_with fail
                         refine(Ct n x y false _ (by omega)).mono ?_;rintro e w11 ⟨rfl,hb11⟩;have st11:=st10.bl hb11;have bl11:=st11.2.2.2.2.2;go_wp2_with fail
                         refine(uC (K|||P*2) n gn gb w.heap.size (w.heap.size+1) _ (fG 0 (fun a b=>a+b) nx (K|||P) n) _ c5 (OA (by rw[<-Hdn.out];exact HbD.out)) hnn hRl st11.2.1 st11.2.2.2.1 (b0.bl bl11) hg0 (ba.bl bl11)).mono ?_;rintro e w12 ⟨rfl,own12,hg12⟩;go_wp2;go_roundw
                         case rel=>exact⟨K+1,_,by omega,by go_num,OA (by rw[dA,<-Hnx.out,HnD.out];exact Heq.out.symm),st11.put own12 hg12⟩
                         case measure=>simp[intOf];omega
                       . rw[hk1]at c3 c4;have Heq:Hid (iP s 0 (fun a b=>a+b) (fun n _=>n) i nx K n=(fG 0 (fun a b=>a+b) nx (K|||P) n)):=OA (by rw[Hone.out,Hdn.out];unfold vR;rw[Hr.out,<-Hx.out,hk1];rfl);clear hk1;go_wp2;go_roundw
                         case rel=>exact⟨K+1,_,by omega,by go_num,OA (by rw[dA,<-Hnx.out,HnD.out];exact Heq.out.symm),st10⟩
                         case measure=>simp[intOf];omega
                 . rw[hB,hbk]at hone;rw[hbk]at a3 a4;have hsub:=Av K hlt x hx8 hbk;rw[<-HP.out]at hsub;have hk2:=(mQ K hlt x hx8 hbk).1;rw[<-HP.out]at hk2;have Hone:=OA hone;have HB:=OA hB;have Hbk:=OA hbk;clear hone hB hbk hover;go_wp2_with fail
                   refine(uX s i x y _ hs hx8 hy8 Hi.out).mono ?_;rintro e w4 ⟨rfl,hb4⟩;rw[HB.out];obtain⟨hc4,hf4,hz4⟩:=bkn hb4 _ hz0;go_wp2_with fail
                   refine(uX s i x y _ hs hx8 hy8 Hi.out).mono ?_;rintro e w5 ⟨rfl,hb5⟩;rw[HB.out];obtain⟨hc5,hf5,hz5⟩:=bkn hb5 _ hz4;have st5:=(hst.bl hb4).bl hb5;have bl5:=st5.2.2.2.2.2;go_wp2_with fail
                   refine(uC (K-P) n gn gb w.heap.size (w.heap.size+1) _ nx _ hk2 HbR hnn Hnl st5.2.1 st5.2.2.2.1 (b0.bl bl5) hg0 (ba.bl bl5)).mono ?_;rintro e w6 ⟨rfl,own6,hg6⟩;have Heq:Hid (iP s 0 (fun a b=>a+b) (fun n _=>n) i nx K n=fG 0 (fun a b=>a+b) nx (K-P) n):=OA (by rw[Hone.out];rfl);go_wp2;go_roundw
                   case rel=>exact⟨K+1,_,by omega,by go_num,OA (by rw[dA,<-Hnx.out,HnD.out];exact Heq.out.symm),st5.put own6 hg6⟩
                   case measure=>simp[intOf];omega
           . obtain rfl : K = 256 := by omega
             have zB:=bB.c1;have e1:aX s (i+1)=nx:=by rw[Bq];exact Hnx.out.symm
             have E1:=OA e1;clear e1;go_wp2;go_roundw
             case rel=>exact⟨i+1,gn,by omega,by go_num,rfl,by rw[E1.out];exact hst.2.1,hst.2.2.2.2.2⟩
             case measure=>simp[intOf];omega
     . obtain rfl : i = 64 := by omega
       have hil:0<(aX s 64).length:=by unfold aX;rw[uW];decide
       have zK:=hnow.slot aL Nat.one_pos hil 0 (.int .i64 (aX s 64)[0]) rfl;rw[Nat.mul_one,Nat.add_zero]at zK;have hgD:R=(aX s 64)[0]:=(by rw[HR.out,getD_eq_getElem?_getD,getElem?_eq_getElem hil,getD_some]);rw[<-hgD]at zK;clear hgD;go_wp2;go_ret;exact⟨rfl,hA.tr hbel2⟩
end Go.Proofs.YtljfoohaapckeaaGreatDoor
