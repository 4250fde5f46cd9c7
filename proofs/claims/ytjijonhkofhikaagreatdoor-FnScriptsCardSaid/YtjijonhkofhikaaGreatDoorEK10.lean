import Derived.Test.YtjijonhkofhikaaGreatDoorEK9
open _root_.List renaming getD_eq_getElem?_getD->TZ,getElem?_eq_getElem->T9,replicate->Ua,length_replicate->Ub,getElem?_toArray->Uc,getElem?_cons_zero->Ud,getElem?_cons_succ->Ue
open _root_.Nat renaming one_pos->Uf,mul_one->Ug,add_zero->Uh,le_refl->Ui
open _root_.Option renaming getD_some->Uj
open _root_.Go.Proofs.Tryz (prog func211 ntmps211 func233 ntmps233)
set_option linter.unusedVariables false
set_option linter.unusedSimpArgs false
set_option maxHeartbeats 4000000
set_option maxRecDepth 100000
namespace Go.Proofs.YtjijonhkofhikaaGreatDoor
open Go.ChangeShapes Go.WideShapes Go.ChangeAt Go.RowKit
theorem EI {k:Nat} (hk:k<8):(2:Int)^k=((2^k:Nat):Int)/\2^k<=128:=
 ⟨by simp,Nat.le_trans (Nat.pow_le_pow_right (by decide) (show k<=7 by omega)) (by decide)⟩
def Put (r:List Int) (g B:Nat) (w:World) (e:Ending) (w':World):Prop:=e= .returned (.tuple #[])/\aD 3 1 bH B w' (.slice (some ⟨g,0,none⟩) 256 256) r/\w.grownBy w' (some g)
theorem Cs (i x y:Nat) (w:World) (hi:i<=64) (hx:x=i%8) (hy:y=i/8):Calls prog 208 #[.int .i64 i] w (Ret (.agg #[.int .i64 x,.int .i64 y]) w):=by
 have:=BR i w hi;unfold iI I9 at this;rw[hx,hy];simpa using this
theorem Dw:∀k:Nat,k<256->∀x:Nat,x<8->k.testBit x=true->bits .andNot .i64 (k:Int) ((2^x:Nat):Int)=((k-2^x:Nat):Int):=by decide+kernel
theorem ixy {x y:Nat} (hx:x<8) (hy:y<8):bM ((x:Int),(y:Int))=true/\(dJ ((x:Int),(y:Int))).toNat=8*y+x:=by
 have a6:bM ((x:Int),(y:Int))=true:=dB.2 ⟨⟨by omega,by omega⟩,by omega,by omega⟩;exact⟨a6,by rw[(dO a6).1];simp only;omega⟩
theorem yB (s i x y:Nat) (w:World) (hs:s<U64) (hx:x<8) (hy:y<8) (hi:i=8*y+x):Calls prog 62 #[.int .u64 s,.agg #[.int .i64 x,.int .i64 y]] w (Ret (.bool (s.testBit i)) w):=by
 have:=iF s x y w hs;obtain⟨a,b⟩:=ixy hx hy;rw[a,b,Bool.true_and,<-hi]at this;exact this
theorem R5 (s i x y:Nat) (w:World) (hs:s<U64) (hx:x<8) (hy:y<8) (hi:i=8*y+x):Calls prog 62 #[.int .u64 s,.agg #[.int .i64 x,.int .i64 ((y:Int)+1)]] w (Ret (.bool (jU s i)) w):=by
 have:=iF s x ((y:Int)+1) w hs;by_cases h:y<7
 . obtain ⟨a, b⟩ := ixy hx (show y + 1 < 8 by omega);rw[show((y:Int)+1)=((y+1:Nat):Int) by omega,a,b,Bool.true_and]at this;have e:jU s i=s.testBit (8*(y+1)+x):=by unfold jU;rw[decide_eq_true (by omega),Bool.true_and,show i+8=8*(y+1)+x by omega]
   rw[e,show((y:Int)+1)=((y+1:Nat):Int) by omega];exact this
 . have e : jU s i = false := by unfold jU; rw [decide_eq_false (by omega), Bool.false_and]
   have c:bM ((x:Int),(y:Int)+1)=false:=by
    rcases q:bM ((x:Int),(y:Int)+1)with _|_
    . rfl
    . have:=(dB.1 q).2;simp only at this;omega
   rw[c,Bool.false_and]at this;rw[e];exact this
theorem Nc (s i x y:Nat) (w:World) (hs:s<U64) (hx:x<8) (hy:y<8) (hi:i=8*y+x):Calls prog 62 #[.int .u64 s,.agg #[.int .i64 ((x:Int)+1),.int .i64 y]] w (Ret (.bool (jV s i)) w):=by
 have:=iF s ((x:Int)+1) y w hs;by_cases h:x<7
 . obtain ⟨a, b⟩ := ixy (show x + 1 < 8 by omega) hy;rw[show((x:Int)+1)=((x+1:Nat):Int) by omega,a,b,Bool.true_and]at this;have e:jV s i=s.testBit (8*y+(x+1)):=by unfold jV;rw[decide_eq_true (by omega),Bool.true_and,show i+1=8*y+(x+1) by omega]
   rw[e,show((x:Int)+1)=((x+1:Nat):Int) by omega];exact this
 . have e : jV s i = false := by unfold jV; rw [decide_eq_false (by omega), Bool.false_and]
   have c:bM ((x:Int)+1,(y:Int))=false:=by
    rcases q:bM ((x:Int)+1,(y:Int))with _|_
    . rfl
    . have:=(dB.1 q).1;simp only at this;omega
   rw[c,Bool.false_and]at this;rw[e];exact this
theorem Bg {K x:Nat} (hK:K<256) (hx:x<8):bits .and .i64 (K:Int) ((2^x:Nat):Int)=((K&&&2^x:Nat):Int)/\bits .or .i64 (K:Int) ((2^x:Nat):Int)=((K|||2^x:Nat):Int)/\(((K&&&2^x:Nat):Int)==0)= !K.testBit x/\(((K&&&2^x:Nat):Int) !=0)=K.testBit x/\K|||2^x<256:=by
 have h2:=(EI hx).2;have hb:=RF K hK x hx
 have e:(((K&&&2^x:Nat):Int)==0)= !K.testBit x:=by
  rw[<-hb,Bool.eq_iff_iff,beq_iff_eq,decide_eq_true_iff];omega
 refine⟨JC K (2^x) (by omega) (by omega),yO K (2^x) (by omega) (by omega),e,?_,zD K hK x hx⟩;unfold bne;rw[e,Bool.not_not]
def PSt (W0:World) (g gc gn gb x y:Nat) (now nx:List Int) (wr:World):Prop:=
 aD 3 1 bH W0.heap.size wr (.slice (some ⟨g,0,none⟩) 256 256) now/\aD 3 1 bH W0.heap.size wr (.slice (some ⟨gn,0,none⟩) 256 256) nx/\Blk wr gc 83 #[.int .i64 x,.int .i64 y]/\Blk wr gb 24 #[.slice (some ⟨gn,0,none⟩) 256 256]/\g≠gn/\Below W0.heap.size W0 wr
section
variable {W0 wr w' : World} {g gc gn gb x y : Nat} {now nx : List Int}
theorem PSt.bl (h:PSt W0 g gc gn gb x y now nx wr) (hb:Below wr.heap.size wr w'):PSt W0 g gc gn gb x y now nx w':=by
 obtain⟨a,b,c,d,e,f⟩:=h;exact⟨a.below hb,b.below hb,c.bl hb,d.bl hb,e,f.tr hb⟩
theorem PSt.put (h:PSt W0 g gc gn gb x y now nx wr) {r:List Int} (own:aD 3 1 bH W0.heap.size w' (.slice (some ⟨gn,0,none⟩) 256 256) r) (hg:wr.grownBy w' (some gn)):PSt W0 g gc gn gb x y now r w':=by
 obtain⟨a,b,c,d,e,f⟩:=h;have hc:gc≠gn:=by intro q;have:=b.apart c (by decide);rw[q]at this;exact this rfl
 have hd:gb≠gn:=by intro q;have:=b.apart d (by decide);rw[q]at this;exact this rfl
 refine⟨World.ownsRow.kept a hg (.inr (by simp[Value.ownBlock];exact e)),own,c.grown hg (by simpa using hc),d.grown hg (by simpa using hd),e,f.grown hg f.size (fun k hk=> ?_)⟩;injection hk with hk;rw[<-hk];exact b.at_.2.1
end
def Nf (nx:List Int):Prop:=∀(j:Nat) (v:Int),nx[j]? =some v->0<=v/\v<=1125899906842624
theorem EJ (s i:Nat):bT s (i+1)=mJ s 0 (fun a b=>a+b) (fun n _=>n) (bT s i) i 256:=rfl
theorem Ng {l : List Int} (hn : ∀ (k : Nat) (v : Int), l[k]? = some v -> 0 <= v) : ∀ K d, lK (fun _ => 1) l K <= lK (fun _ => 1) l (K + d)
  |K,0=>Int.le_refl _
  | K, d + 1 => by
   have h:=Ng hn K d;rw[<-Nat.add_assoc,jM]
   have hg:0<=l.getD (K+d) 0:=by
    rw[TZ];rcases q:l[K+d]? with _|v
    . simp
    . exact hn _ v q
   omega
theorem EK (s i K : Nat) (hi : i < 64) (hK : K < 256) : (∀ (j : Nat) (v : Int), (mJ s 0 (fun a b => a + b) (fun n _ => n) (bT s i) i K)[j]? = some v -> 0 <= v) /\ lK (fun _ => 1) (mJ s 0 (fun a b => a + b) (fun n _ => n) (bT s i) i K) 256 + (bT s i).getD K 0 * two i <= 562949953421312 := by
 obtain⟨a,b⟩:=Q3 s i;obtain⟨c,d⟩:=Mq (s:=s) (i:=i) a (yA i) K (by omega);refine⟨c,?_⟩;have e:lK (fun _=>1) (bT s i) (K+1)*two i=lK (fun _=>1) (bT s i) K*two i+(bT s i).getD K 0*two i:=by rw[jM,Int.add_mul];simp
 have h1:=Ng a (K+1) (256-(K+1));rw[show K+1+(256-(K+1))=256 by omega]at h1;have h2:lK (fun _=>1) (bT s i) (K+1)*two i<=capOf i*two i:=Int.mul_le_mul_of_nonneg_right (Int.le_trans h1 b) (by have:=(Ak i).1;omega);have h3:capOf i*two i=capOf (i+1):=rfl;have h4:=Fy (i+1) (64-(i+1));rw[show i+1+(64-(i+1))=64 by omega,QN]at h4;omega
theorem BI (s i K : Nat) (hi : i < 64) (hK : K < 256) : Nf (mJ s 0 (fun a b => a + b) (fun n _ => n) (bT s i) i K) := by
 obtain⟨c,d⟩:=EK s i K hi hK;have hn:=(Ji s i K (by omega) hK).1;have ht:=(Ak i).1;have hm:0<=(bT s i).getD K 0*two i:=Int.mul_nonneg hn (by omega);intro j v hj;have hl:=lY (s:=s) (no:=0) (add:=fun a b=>a+b) (wt:=fun n _=>n) (bT s i) i K;have a6:j<256:=by rw[<-hl];exact(List.getElem?_eq_some_iff.1 hj).1
 have h1:=(Bd c 256 j a6).1;rw[TZ,hj,Uj]at h1;exact⟨c j v hj,by omega⟩
theorem KI (s i K : Nat) (hi : i < 64) (hK : K < 256) : Nf (sK s 0 (fun a b => a + b) (fun n _ => n) i (mJ s 0 (fun a b => a + b) (fun n _ => n) (bT s i) i K) K ((bT s i).getD K 0)) := by
 have h:=BI s i K hi hK;have hn:=Ji s i K (by omega) hK;obtain⟨c,d⟩:=EK s i K hi hK;have hl:=lY (s:=s) (no:=0) (add:=fun a b=>a+b) (wt:=fun n _=>n) (bT s i) i K;have ht:=(Ak i).1;have hm:(bT s i).getD K 0*1<=(bT s i).getD K 0*two i:=Int.mul_le_mul_of_nonneg_left ht hn.1;rw[Int.mul_one]at hm;unfold sK;split
 . refine Bz (P := fun _ v => 0 <= v /\ v <= 1125899906842624) h ?_ (fun _ => ⟨hn.1, by show (bT s i).getD K 0 <= _; omega⟩) ?_
   . rw[hl];exact zD K hK _ (by omega)
   . intro v hv _;have a6:(K|||2^(i%8))<256:=zD K hK _ (by omega);have h1:=(Bd c 256 _ a6).1;rw[TZ,hv,Uj]at h1;have:=c _ v hv;exact⟨by show 0<=v+(bT s i).getD K 0;omega,by show v+(bT s i).getD K 0<=_;omega⟩
 . exact h
theorem Nh (s i k:Nat) (hi:i<64) (hk:k<256) (v:Int) (h:(bT s i)[k]? =some v):v=0∨(0<=v/\v<=1125899906842624/\gV s i k):=by
 have h1:=Ji s i k (by omega) hk;rw[TZ,h,Uj]at h1;rcases Q0 s i k v h with h2|h2
 . exact .inl h2
 . exact .inr ⟨h1.1,by omega,h2⟩
theorem PL (a b:Int) (w:World) (h0:0<=a) (h1:a<=1125899906842624) (h2:0<=b) (h3:b<=1125899906842624):Calls prog 210 #[.int .i64 a,.int .i64 b] w (Pure (.int .i64 (a+b)) w):=by
 go_enter Tryz.func210,Tryz.ntmps210
 go_wp2;go_ret;exact⟨rfl,rfl⟩
theorem FC (n x y:Int) (d:Bool) (w:World) (hx:0<=x):
 Calls prog 211 #[.int .i64 n,.agg #[.int .i64 x,.int .i64 y,.bool d]] w (Ret (.int .i64 n) w):=by
 go_enter func211,ntmps211
 go_wp2;go_ret;exact⟨rfl,(Below.refl _ _).al _⟩
theorem LK (n:Int) (w:World):
 Calls prog 211 #[.int .i64 n,.agg #[.int .i64 (-1),.int .i64 0,.bool false]] w (Ret (.int .i64 1) w):=by
 go_enter func211,ntmps211
 go_wp2;go_ret;exact⟨rfl,(Below.refl _ _).al _⟩
theorem xC (k:Nat) (n:Int) (g gn g0 ga B:Nat) (nx:List Int) (w:World) (hk:k<256) (bC:Hid (Nf nx)) (hn:0<=n/\n<=1125899906842624) (Hl:Hid (nx.length=256)) (own:aD 3 1 bH B w (.slice (some ⟨g,0,none⟩) 256 256) nx) (bn:Blk w gn 24 #[.slice (some ⟨g,0,none⟩) 256 256]) (b0:Blk w g0 3 #[.int .i64 0]) (hg0:g0≠g) (ba:Blk w ga 204 #[.func (.func 210) #[] #[]]):
 Calls prog 233 #[.int .i64 k,.int .i64 n,.pointer (some ⟨gn,0,none⟩),.pointer (some ⟨g0,0,none⟩),.pointer (some ⟨ga,0,none⟩)] w (Put (fU 0 (fun a b=>a+b) nx k n) g B w):=by
 have a6:k<nx.length:=by rw[Hl.out];exact hk
 have bD:gn≠g:=by intro e;have:=own.apart bn (by decide);rw[e]at this;exact this rfl
 have bE:ga≠g:=by intro e;have:=own.apart ba (by decide);rw[e]at this;exact this rfl
 have zk:=own.slot aJ Uf a6 0 (.int .i64 nx[k]) rfl;rw[Ug,Uh]at zk;have hv:nx.getD k 0=nx[k]:=(by rw[TZ,T9 a6,Uj]);have bB:=own.free;have zn:=bn.c1;have z0:=b0.c1;have za:=ba.c1;have bO:(k:Int)<256:=(by omega);have bR:(0:Int)<=(k:Int):=(by omega);have hR:fU 0 (fun a b=>a+b) nx k n=nx.set k (if nx[k]=0 then n else nx[k]+n):=by unfold fU;rw[hv]
 rw[hR];obtain⟨v,a8⟩:=TV (nx[k]);have hv0:0<=v/\v<=1125899906842624:=a8▸bC.out k _ (T9 a6)
 rw[<-a8]at zk⊢;clear hv hR a8;by_cases h1:v=0
 . subst h1;rw[if_pos rfl];go_enter func233,ntmps233
   go_wp2_with fail
   go_quiet (fail)
   go_wp2;go_end0
   exact⟨rfl,(own.drewN _).iZ aJ a6 rfl,dA (wV (World.grownBy.refl _ _) _) _ _⟩
 . have bU : (v == 0) = false := by simpa using h1
   rw[if_neg h1];have H1:=TY h1;clear h1;go_enter func233,ntmps233
   go_wp2_with fail
   go_quiet (fail)
   have bF:(w.drewN nq).cell? ⟨g,k,none⟩=some (.int .i64 v):=zk;have bJ:(w.drewN nq).cell? ⟨gn,0,none⟩=some (.slice (some ⟨g,0,none⟩) 256 256):=zn;have bK:(w.drewN nq).cell? ⟨ga,0,none⟩=some (.func (.func 210) #[] #[]):=za;have bA:∀j,(w.drewN nq).frozen? ⟨g,j,none⟩=false:=bB;have a7:=own.drewN nq;have hgr:=wV (World.grownBy.refl w (some g)) nq;clear zk zn za bB;obtain⟨wd,hwd⟩:=TV (w.drewN nq);rw[<-hwd]at bF bJ bK bA a7 hgr⊢;have bL:=bD.symm;have bN:=bE.symm;clear hwd;go_wp2_with fail
   refine rB (fun w'=>w'.cell? ⟨gn,0,none⟩=some (.slice (some ⟨g,0,none⟩) 256 256)/\w'.cell? ⟨ga,0,none⟩=some (.func (.func 210) #[] #[])) fun hHeld=>(tW 0)<|(tW 1)<|(tW 2)<|(tW 3)<|(tW 4)<|(tW 5)<|(tW 7)<|(tR [6])<|tL fun K hK=>?_
   go_simp
   refine tK hK fun hHeld=>?_
   clear hK K;refine(tR [8])<|tL fun K hK=>?_
   go_simp
   (go_at_call 210;go_must (refine(PL v n _ hv0.1 hv0.2 hn.1 hn.2).mono ?_;rintro e wX ⟨rfl,rfl⟩);(try go_wp2_with fail))
   refine tK hK fun hHeld=>?_
   clear hK K;refine(tW 9)<|(tR [10])<|tL fun K hK=>?_
   go_simp
   refine tK hK fun hHeld=>?_
   clear hK K;refine tD ?_;go_wp2;go_end0
   exact⟨rfl,(a7.drewN 1).iZ aJ a6 rfl,dA (wV hgr 1) _ _⟩
theorem Oe (s:Nat) (w:World) (hs:s<U64):
 Calls prog 209 #[.int .u64 s,.int .i64 0,.func (.func 210) #[] #[],.func (.func 211) #[] #[]] w (Ret (.int .i64 ((bT s 64).getD 0 0)) w):=by
 have hA:=((Below.refl w.heap.size w).al (.cells #[.int .i64 0] 3)).al (.cells #[.func (.func 210) #[] #[]] 204);have b0:=(Blk.aZ w 3 #[.int .i64 0]).alloc (.cells #[.func (.func 210) #[] #[]] 204);have ba:=Blk.gZ (w.alloc (.cells #[.int .i64 0] 3)) 204 #[.func (.func 210) #[] #[]] (w.heap.size+1) (by simp);have cV:Hid ((256:Int)=((256:Nat):Int)):=TY rfl;have B0:=Below.refl ((w.alloc (.cells #[.int .i64 0] 3)).alloc (.cells #[.func (.func 210) #[] #[]] 204)).heap.size ((w.alloc (.cells #[.int .i64 0] 3)).alloc (.cells #[.func (.func 210) #[] #[]] 204));obtain⟨R,hR⟩:=TV ((bT s 64).getD 0 0);rw[<-hR];have HR:=TY hR;clear hR;go_enter Tryz.func209,Tryz.ntmps209
 go_wp2_with (at_make;go_must (refine mM (enc:=bH) (z0:=(0:Int)) fE rfl B0 256 (by decide) (by decide) _ cV.out rfl _ _ rfl rfl rfl ?_);intro w1 hown1 hb1 hg1)
 go_loopw [22] (fun gT wr=>∃(k:Nat) (m:List Int),k<=256/\gT= .int .i64 k/\DD k m (Ua 256 (0:Int))/\aD 3 1 bH ((w.alloc (.cells #[.int .i64 0] 3)).alloc (.cells #[.func (.func 210) #[] #[]] 204)).heap.size wr (.slice (some ⟨w.heap.size+1+1,0,none⟩) 256 256) m/\Below ((w.alloc (.cells #[.int .i64 0] 3)).alloc (.cells #[.func (.func 210) #[] #[]] 204)).heap.size ((w.alloc (.cells #[.int .i64 0] 3)).alloc (.cells #[.func (.func 210) #[] #[]] 204)) wr) (fun i _=>256-(intOf i).toNat)
 case atStart=>exact⟨0,Ua 256 0,by omega,rfl,DD.start _ _ rfl,by simpa using hown1,hb1⟩
 case round=>
  obtain⟨k,m,hk,rfl,hu,hown,bY⟩:=hrel;have cB:=b0.bl bY;have z0:=cB.c1;have b5:m.length=256:=(by rw[hu.1,Ub]);by_cases hlt:k<256
  . obtain ⟨u0, s0⟩ := hown.DI aJ (k := k) (by rw [b5]; exact hlt);have gW:=hown.free;have eN:=TY b5;clear b5;have hst:=hu.step (by rw[Ub];exact hlt);rw[List.getElem_replicate]at hst;have Hu:=TY hst;clear hu hst;go_wp2;go_roundw
    case rel=>exact⟨k+1,_,by omega,by go_num,Hu.out,hown.iZ aJ (by rw[eN.out];exact hlt) rfl,bY.st _ _ (by simp)⟩
    case measure=>simp[intOf];omega
  . obtain rfl : k = 256 := by omega
    obtain rfl:=hu.done (by rw[Ub];omega);clear hown1 hb1 hg1 hu b5;go_wp2_with fail
    refine(LK _ _).mono ?_;rintro e w2 ⟨rfl,hb2⟩;have b6:=hown.below hb2;have hl0:0<(Ua 256 (0:Int)).length:=by rw[Ub];decide
    obtain⟨u2,s2⟩:=b6.DI aJ hl0;have eP:=b6.free;have B2:=bY.tr hb2;have cD:=b6.iZ aJ hl0 (y:=1) rfl;have e0:bT s 0=(Ua 256 (0:Int)).set 0 1:=rfl;rw[<-e0]at cD;have B3:=B2.st ⟨w.heap.size+1+1,0,none⟩ (.int .i64 1) (by simp);clear z0 e0 hl0;go_wp2;go_loopw [9,36] (fun s9 gX wr=>∃(i g:Nat),i<=64/\gX= .int .i64 i/\s9= .slice (some ⟨g,0,none⟩) 256 256/\aD 3 1 bH ((w.alloc (.cells #[.int .i64 0] 3)).alloc (.cells #[.func (.func 210) #[] #[]] 204)).heap.size wr (.slice (some ⟨g,0,none⟩) 256 256) (bT s i)/\Below ((w.alloc (.cells #[.int .i64 0] 3)).alloc (.cells #[.func (.func 210) #[] #[]] 204)).heap.size ((w.alloc (.cells #[.int .i64 0] 3)).alloc (.cells #[.func (.func 210) #[] #[]] 204)) wr) (fun _ i _=>64-(intOf i).toNat)
    case atStart=>exact⟨0,w.heap.size+1+1,by omega,rfl,rfl,cD,B3⟩
    case round=>
     obtain⟨i,g,hi,rfl,rfl,b7,bN⟩:=hrel;clear cD B3 B2 b6 s2 eP hb2 hown bY cB;by_cases cE:i<64
     . obtain⟨x,hx⟩:=TV (i%8);obtain⟨y,hy⟩:=TV (i/8);have bJ:x<8:=(by omega);have b8:y<8:=(by omega);have Hx:=TY hx;have Hy:=TY hy;clear hx hy;go_wp2_with fail
       refine(Cs i x y _ (by omega) Hx.out Hy.out).mono ?_;rintro e w3 ⟨rfl,hb3⟩;have B4:=(bN.tr hb3).al (.cells #[.int .i64 x,.int .i64 y] 83);have bC:=Blk.aZ w3 83 #[.int .i64 x,.int .i64 y];have cW:=(b7.below hb3).alloc (.cells #[.int .i64 x,.int .i64 y] 83);go_wp2_with (at_make;go_must (refine mM (enc:=bH) (z0:=(0:Int)) fE rfl B4 256 (by decide) (by decide) _ cV.out rfl _ _ rfl rfl rfl ?_);intro w4 cC hb4 hg4)
       have cF:PSt ((w.alloc (.cells #[.int .i64 0] 3)).alloc (.cells #[.func (.func 210) #[] #[]] 204)) g w3.heap.size (w3.heap.size+1) w4.heap.size x y (bT s i) (Ua 256 0) (w4.alloc (.cells #[.slice (some ⟨w3.heap.size+1,0,none⟩) 256 256] 24)):=by
        have k8:=(b7.below hb3).at_.2.2;refine⟨(World.ownsRow.kept cW hg4 (.inr (by simp[Value.ownBlock]))).alloc _,(by simpa using cC:aD 3 1 bH ((w.alloc (.cells #[.int .i64 0] 3)).alloc (.cells #[.func (.func 210) #[] #[]] 204)).heap.size w4 (.slice (some ⟨w3.heap.size+1,0,none⟩) 256 256) (Ua 256 0)).alloc _,(bC.grown hg4 (by simp)).alloc _,Blk.aZ _ _ _,by omega,hb4.al _⟩
       have hm:DD 0 (Ua 256 (0:Int)) (Ua 256 (0:Int)):=DD.start _ _ rfl;obtain⟨gc,eC⟩:=TV w3.heap.size;obtain⟨gb,hgb⟩:=TV w4.heap.size;obtain⟨gn,eE⟩:=TV (w3.heap.size+1);rw[<-eE,<-eC,<-hgb]at cF;have k9:=TY eC;have lA:=TY hgb;have lB:=TY eE;go_wp2;try rw[<-eE]
       try rw[<-eC]
       try rw[<-hgb]
       clear eC hgb eE;go_loopw [44] (fun gY wr=>∃(k:Nat) (m:List Int),k<=256/\gY= .int .i64 k/\DD k m (Ua 256 (0:Int))/\PSt ((w.alloc (.cells #[.int .i64 0] 3)).alloc (.cells #[.func (.func 210) #[] #[]] 204)) g gc gn gb x y (bT s i) m wr) (fun i _=>256-(intOf i).toNat)
       case atStart=>exact⟨0,_,by omega,rfl,hm,cF⟩
       case round=>
        obtain⟨k,m,hk,rfl,hu,hst⟩:=hrel;clear cF hm b7 bN cW cC hb4 hg4 B4 bC;obtain⟨oA,oN,bC,bB,hE,hbl⟩:=hst;have hst:PSt ((w.alloc (.cells #[.int .i64 0] 3)).alloc (.cells #[.func (.func 210) #[] #[]] 204)) g gc gn gb x y (bT s i) m wr:=⟨oA,oN,bC,bB,hE,hbl⟩;have cB:=b0.bl hbl;have z0:=cB.c1;have zB:=bB.c1;have b5:m.length=256:=(by rw[hu.1,Ub]);by_cases hlt:k<256
        . obtain ⟨u0, s0⟩ := oN.DI aJ (k := k) (by rw [b5]; exact hlt);have gW:=oN.free;have eN:=TY b5;clear b5;have cG:=hu.step (by rw[Ub];exact hlt);rw[List.getElem_replicate]at cG;have Hu:=TY cG;clear hu cG;have hZ:=oN.iZ aJ (k:=k) (y:=0) (by rw[eN.out];exact hlt) rfl;go_wp2;go_roundw
          case rel=>exact⟨k+1,_,by omega,by go_num,Hu.out,hst.put hZ (dA (World.grownBy.refl _ _) _ _)⟩
          case measure=>simp[intOf];omega
        . obtain rfl : k = 256 := by omega
          obtain rfl:=hu.done (by rw[Ub];omega);have cQ:=bC.cell 0;have cR:=bC.cell 1;simp only[Uc,Ud,Ue]at cQ cR;have cX:=EI bJ;obtain⟨P,hP⟩:=TV (2^x);rw[<-hP]at cX;obtain⟨lO,lR⟩:=cX;have HP:=TY hP;clear hu b5 hP z0;rw[show((256:Nat):Int)=256 from rfl];go_wp2;go_loopw [58] (fun h9 wr=>∃(K:Nat) (nx:List Int),K<=256/\h9= .int .i64 K/\Hid (nx=mJ s 0 (fun a b=>a+b) (fun n _=>n) (bT s i) i K)/\PSt ((w.alloc (.cells #[.int .i64 0] 3)).alloc (.cells #[.func (.func 210) #[] #[]] 204)) g gc gn gb x y (bT s i) nx wr) (fun i _=>256-(intOf i).toNat)
          case atStart=>exact⟨0,_,by omega,rfl,TY (by unfold mJ;rw[List.range_zero];rfl),hst⟩
          case round=>
           obtain⟨K,nx,hK,rfl,bK,cY⟩:=hrel;clear hst oA oN bC bB hbl cB zB cQ cR;have hst:=cY;obtain⟨oA,oN,bC,bB,j0,hbl⟩:=cY;have cB:=b0.bl hbl;have j1:=ba.bl hbl;have cQ:=bC.cell 0;have cR:=bC.cell 1;simp only[Uc,Ud,Ue]at cQ cR;have z0:=cB.c1;by_cases hlt:K<256
           . have cS : K < (bT s i).length := by unfold bT; rw [yA]; exact hlt
             have zK:=oA.slot aJ Uf cS 0 (.int .i64 (bT s i)[K]) rfl;rw[Ug,Uh]at zK;have bO:=Nh s i K cE hlt _ (T9 cS);have cT:(bT s i).getD K 0=(bT s i)[K]:=(by rw[TZ,T9 cS,Uj]);obtain⟨n,hn⟩:=TV ((bT s i)[K]);rw[<-hn]at zK bO cT;have bX:=TY cT;clear hn cT;by_cases cU:n=0
             . subst cU;have bA:Hid (jK s 0 (fun a b=>a+b) (fun n _=>n) i nx K 0=nx):=TY (by unfold jK;rw[if_pos rfl]);clear bO;go_wp2;go_roundw
               case rel=>exact⟨K+1,_,by omega,by go_num,TY (by rw[dN,<-bK.out,bX.out];exact bA.out.symm),hst⟩
               case measure=>simp[intOf];omega
             . have j2 : (n == 0) = false := by simpa using cU
               obtain⟨j3,j4,eR⟩:=bO.resolve_left cU;have gD:i=8*y+x:=by have:=Hx.out;have:=Hy.out;omega
               have Hi:=TY gD;have gF:nx.length=256:=(by rw[bK.out,lY]);have dL:=TY gF;have eW:Hid (Nf nx):=TY (by rw[bK.out];exact BI s i K cE hlt);have gK:Hid (Nf (sK s 0 (fun a b=>a+b) (fun n _=>n) i nx K n)):=TY (by rw[<-bX.out,bK.out];exact KI s i K cE hlt);have dT:0<=n/\n<=1125899906842624:=⟨j3,j4⟩;obtain⟨a1,a2,a3,a4,a5⟩:=Bg hlt bJ;rw[<-HP.out]at a1 a2 a3 a4 a5;have bD:K.testBit (i%8)=true->s.testBit i=true:=fun q=>Fx eR q
               have a7 : jK s 0 (fun a b => a + b) (fun n _ => n) i nx K n = if s.testBit i then (if K.testBit x then fU 0 (fun a b => a + b) nx (K - P) n else zC s 0 (fun a b => a + b) (fun n _ => n) i (sK s 0 (fun a b => a + b) (fun n _ => n) i nx K n) K n) else (if K.testBit x then nx else fU 0 (fun a b => a + b) nx K n) := by
                unfold jK;rw[if_neg cU,<-Hx.out,<-HP.out]
               rw[<-Hx.out]at bD;have l4:=TY eR;have l5:=TY cU;have hg0:w.heap.size≠gn:=by have:=oN.at_.2.1;simp at this;omega
               have l6:gc<wr.heap.size:=bC.lt;have hz0:wr.heap.size<=wr.heap.size:=Ui _;clear eR cU gF gD;rcases hB:s.testBit i with _|_
               . rcases bE:K.testBit x with _|_
                 . rw[hB,bE]at a7;rw[bE]at a3 a4;have a6:=TY a7;have HB:=TY hB;have gL:=TY bE;clear a7 hB bE bD;go_wp2_with fail
                   refine(yB s i x y _ hs bJ b8 Hi.out).mono ?_;rintro e w4 ⟨rfl,hb4⟩;rw[HB.out];obtain⟨eI,eJ,eK⟩:=bkn hb4 _ hz0;have cF:=hst.bl hb4;go_wp2_with fail
                   refine(xC K n gn gb w.heap.size (w.heap.size+1) _ nx _ hlt eW dT dL cF.2.1 cF.2.2.2.1 (cB.bl hb4) hg0 (j1.bl hb4)).mono ?_;rintro e w5 ⟨rfl,e5,j5⟩;have bA:Hid (jK s 0 (fun a b=>a+b) (fun n _=>n) i nx K n=fU 0 (fun a b=>a+b) nx K n):=TY (by rw[a6.out];rfl);go_wp2;go_roundw
                   case rel=>exact⟨K+1,_,by omega,by go_num,TY (by rw[dN,<-bK.out,bX.out];exact bA.out.symm),cF.put e5 j5⟩
                   case measure=>simp[intOf];omega
                 . exact absurd (bD bE) (by rw[hB];simp)
               . rcases bE:K.testBit x with _|_
                 . rw[hB,bE]at a7;rw[bE]at a3 a4;have a6:=TY a7;have HB:=TY hB;have gL:=TY bE;clear a7 hB bE bD;go_wp2_with fail
                   refine(yB s i x y _ hs bJ b8 Hi.out).mono ?_;rintro e w4 ⟨rfl,hb4⟩;rw[HB.out];obtain⟨eI,eJ,eK⟩:=bkn hb4 _ hz0;go_wp2_with fail
                   refine(yB s i x y _ hs bJ b8 Hi.out).mono ?_;rintro e w5 ⟨rfl,eA⟩;rw[HB.out];obtain⟨e6,e7,gM⟩:=bkn eA _ eK;go_wp2_with fail
                   refine(yB s i x y _ hs bJ b8 Hi.out).mono ?_;rintro e w6 ⟨rfl,gN⟩;rw[HB.out];obtain⟨gO,gP,j6⟩:=bkn gN _ gM;go_wp2_with fail
                   refine(R5 s i x y _ hs bJ b8 Hi.out).mono ?_;rintro e w7 ⟨rfl,gQ⟩;have e8:=(((hst.bl hb4).bl eA).bl gN).bl gQ;rcases hd:jU s i with _|_
                   . have b9 : Hid (sK s 0 (fun a b => a + b) (fun n _ => n) i nx K n = nx) := TY (by unfold sK; rw [hd]; rfl);clear hd eI e6 gO eJ e7 gP cQ cR;have cH:PSt ((w.alloc (.cells #[.int .i64 0] 3)).alloc (.cells #[.func (.func 210) #[] #[]] 204)) g gc gn gb x y (bT s i) nx w7:=e8;obtain⟨e9,fD,cA,fL,cI,cJ⟩:=cH;have cH:PSt ((w.alloc (.cells #[.int .i64 0] 3)).alloc (.cells #[.func (.func 210) #[] #[]] 204)) g gc gn gb x y (bT s i) nx w7:=⟨e9,fD,cA,fL,cI,cJ⟩;have cK:=cA.cell 0;have cL:=cA.cell 1;simp only[Uc,Ud,Ue]at cK cL;have fN:=cA.lt;have fO:w7.heap.size<=w7.heap.size:=Ui _;have fR:Hid ((nx:List Int).length=256):=TY dL.out;go_wp2_with fail
                     refine(Nc s i x y _ hs bJ b8 Hi.out).mono ?_;rintro e j7 ⟨rfl,bR⟩;obtain⟨fS,fW,fX⟩:=bkn bR _ fO;have bF:=cH.bl bR;rcases hr:jV s i with _|_
                     . have bA : Hid (jK s 0 (fun a b => a + b) (fun n _ => n) i nx K n = nx) := TY (by rw [a6.out, b9.out]; unfold zC; rw [hr]; rfl);clear hr;go_wp2;go_roundw
                       case rel=>exact⟨K+1,_,by omega,by go_num,TY (by rw[dN,<-bK.out,bX.out];exact bA.out.symm),bF⟩
                       case measure=>simp[intOf];omega
                     . have j8 : x < 7 := by have := Hx.out; unfold jV at hr; rw [Bool.and_eq_true, decide_eq_true_iff] at hr; omega
                       obtain⟨c1,c2,c3,c4,c5⟩:=Bg hlt (show x+1<8 by omega);have cM:2^(x+1)=P*2:=(by rw[Nat.pow_succ,HP.out]);rw[cM]at c1 c2 c3 c4 c5;rw[show((P*2:Nat):Int)=(P:Int)*2 by omega]at c1 c2;have Hr:=TY hr;have fY:=TY cM;clear hr cM;rcases bL:K.testBit (x+1)with _|_
                       . rw[bL]at c3 c4
                         have bA : Hid (jK s 0 (fun a b => a + b) (fun n _ => n) i nx K n = fU 0 (fun a b => a + b) nx (K ||| P * 2) n) := TY (by
                          rw[a6.out,b9.out];unfold zC;rw[Hr.out,<-Hx.out,bL,fY.out,show eQ i=((x:Int),(y:Int),false) by unfold eQ;rw[<-Hx.out,<-Hy.out]];rfl)
                         clear bL;go_wp2_with fail
                         refine(FC n x y false _ (by omega)).mono ?_;rintro e j9 ⟨rfl,cN⟩;have a8:=bF.bl cN;have bU:=a8.2.2.2.2.2;go_wp2_with fail
                         refine(xC (K|||P*2) n gn gb w.heap.size (w.heap.size+1) _ nx _ c5 (TY (by rw[<-b9.out];exact gK.out)) dT fR a8.2.1 a8.2.2.2.1 (b0.bl bU) hg0 (ba.bl bU)).mono ?_;rintro e kA ⟨rfl,bW,cP⟩;go_wp2;go_roundw
                         case rel=>exact⟨K+1,_,by omega,by go_num,TY (by rw[dN,<-bK.out,bX.out];exact bA.out.symm),a8.put bW cP⟩
                         case measure=>simp[intOf];omega
                       . rw[bL]at c3 c4;have bA:Hid (jK s 0 (fun a b=>a+b) (fun n _=>n) i nx K n=nx):=TY (by rw[a6.out,b9.out];unfold zC;rw[Hr.out,<-Hx.out,bL];rfl);clear bL;go_wp2;go_roundw
                         case rel=>exact⟨K+1,_,by omega,by go_num,TY (by rw[dN,<-bK.out,bX.out];exact bA.out.symm),bF⟩
                         case measure=>simp[intOf];omega
                   . obtain⟨kB,kO,l7⟩:=bkn gQ _ j6
                     have b9 : Hid (sK s 0 (fun a b => a + b) (fun n _ => n) i nx K n = fU 0 (fun a b => a + b) nx (K ||| P) n) := TY (by
                      unfold sK;rw[hd,<-Hx.out,<-HP.out,show fK i=((x:Int),(y:Int),true) by unfold fK;rw[<-Hx.out,<-Hy.out]];rfl)
                     clear hd;have l8:=e8.2.2.2.2.2;go_wp2_with fail
                     refine(FC n x y true _ (by omega)).mono ?_;rintro e w8 ⟨rfl,k0⟩;have eL:=e8.bl k0;have gR:=eL.2.2.2.2.2;go_wp2_with fail
                     refine(xC (K|||P) n gn gb w.heap.size (w.heap.size+1) _ nx _ a5 eW dT dL eL.2.1 eL.2.2.2.1 (b0.bl gR) hg0 (ba.bl gR)).mono ?_;rintro e w9 ⟨rfl,gA,k5⟩;have k6:=eL.put gA k5;clear eI e6 gO kB eJ e7 gP kO cQ cR;have cH:PSt ((w.alloc (.cells #[.int .i64 0] 3)).alloc (.cells #[.func (.func 210) #[] #[]] 204)) g gc gn gb x y (bT s i) (fU 0 (fun a b=>a+b) nx (K|||P) n) w9:=k6;obtain⟨e9,fD,cA,fL,cI,cJ⟩:=cH;have cH:PSt ((w.alloc (.cells #[.int .i64 0] 3)).alloc (.cells #[.func (.func 210) #[] #[]] 204)) g gc gn gb x y (bT s i) (fU 0 (fun a b=>a+b) nx (K|||P) n) w9:=⟨e9,fD,cA,fL,cI,cJ⟩;have cK:=cA.cell 0;have cL:=cA.cell 1;simp only[Uc,Ud,Ue]at cK cL;have fN:=cA.lt;have fO:w9.heap.size<=w9.heap.size:=Ui _;have fR:Hid (((fU 0 (fun a b=>a+b) nx (K|||P) n):List Int).length=256):=TY (by rw[tF,dL.out]);go_wp2_with fail
                     refine(Nc s i x y _ hs bJ b8 Hi.out).mono ?_;rintro e j7 ⟨rfl,bR⟩;obtain⟨fS,fW,fX⟩:=bkn bR _ fO;have bF:=cH.bl bR;rcases hr:jV s i with _|_
                     . have bA : Hid (jK s 0 (fun a b => a + b) (fun n _ => n) i nx K n = (fU 0 (fun a b => a + b) nx (K ||| P) n)) := TY (by rw [a6.out, b9.out]; unfold zC; rw [hr]; rfl);clear hr;go_wp2;go_roundw
                       case rel=>exact⟨K+1,_,by omega,by go_num,TY (by rw[dN,<-bK.out,bX.out];exact bA.out.symm),bF⟩
                       case measure=>simp[intOf];omega
                     . have j8 : x < 7 := by have := Hx.out; unfold jV at hr; rw [Bool.and_eq_true, decide_eq_true_iff] at hr; omega
                       obtain⟨c1,c2,c3,c4,c5⟩:=Bg hlt (show x+1<8 by omega);have cM:2^(x+1)=P*2:=(by rw[Nat.pow_succ,HP.out]);rw[cM]at c1 c2 c3 c4 c5;rw[show((P*2:Nat):Int)=(P:Int)*2 by omega]at c1 c2;have Hr:=TY hr;have fY:=TY cM;clear hr cM;rcases bL:K.testBit (x+1)with _|_
                       . rw[bL]at c3 c4
                         have bA : Hid (jK s 0 (fun a b => a + b) (fun n _ => n) i nx K n = fU 0 (fun a b => a + b) (fU 0 (fun a b => a + b) nx (K ||| P) n) (K ||| P * 2) n) := TY (by
                          rw[a6.out,b9.out];unfold zC;rw[Hr.out,<-Hx.out,bL,fY.out,show eQ i=((x:Int),(y:Int),false) by unfold eQ;rw[<-Hx.out,<-Hy.out]];rfl)
                         clear bL;go_wp2_with fail
                         refine(FC n x y false _ (by omega)).mono ?_;rintro e j9 ⟨rfl,cN⟩;have a8:=bF.bl cN;have bU:=a8.2.2.2.2.2;go_wp2_with fail
                         refine(xC (K|||P*2) n gn gb w.heap.size (w.heap.size+1) _ (fU 0 (fun a b=>a+b) nx (K|||P) n) _ c5 (TY (by rw[<-b9.out];exact gK.out)) dT fR a8.2.1 a8.2.2.2.1 (b0.bl bU) hg0 (ba.bl bU)).mono ?_;rintro e kA ⟨rfl,bW,cP⟩;go_wp2;go_roundw
                         case rel=>exact⟨K+1,_,by omega,by go_num,TY (by rw[dN,<-bK.out,bX.out];exact bA.out.symm),a8.put bW cP⟩
                         case measure=>simp[intOf];omega
                       . rw[bL]at c3 c4;have bA:Hid (jK s 0 (fun a b=>a+b) (fun n _=>n) i nx K n=(fU 0 (fun a b=>a+b) nx (K|||P) n)):=TY (by rw[a6.out,b9.out];unfold zC;rw[Hr.out,<-Hx.out,bL];rfl);clear bL;go_wp2;go_roundw
                         case rel=>exact⟨K+1,_,by omega,by go_num,TY (by rw[dN,<-bK.out,bX.out];exact bA.out.symm),bF⟩
                         case measure=>simp[intOf];omega
                 . rw[hB,bE]at a7;rw[bE]at a3 a4;have gB:=Dw K hlt x bJ bE;rw[<-HP.out]at gB;have hk2:=(pV K hlt x bJ bE).1;rw[<-HP.out]at hk2;have a6:=TY a7;have HB:=TY hB;have gL:=TY bE;clear a7 hB bE bD;go_wp2_with fail
                   refine(yB s i x y _ hs bJ b8 Hi.out).mono ?_;rintro e w4 ⟨rfl,hb4⟩;rw[HB.out];obtain⟨eI,eJ,eK⟩:=bkn hb4 _ hz0;go_wp2_with fail
                   refine(yB s i x y _ hs bJ b8 Hi.out).mono ?_;rintro e w5 ⟨rfl,eA⟩;rw[HB.out];obtain⟨e6,e7,gM⟩:=bkn eA _ eK;have eM:=(hst.bl hb4).bl eA;have gS:=eM.2.2.2.2.2;go_wp2_with fail
                   refine(xC (K-P) n gn gb w.heap.size (w.heap.size+1) _ nx _ hk2 eW dT dL eM.2.1 eM.2.2.2.1 (b0.bl gS) hg0 (ba.bl gS)).mono ?_;rintro e w6 ⟨rfl,gC,k7⟩;have bA:Hid (jK s 0 (fun a b=>a+b) (fun n _=>n) i nx K n=fU 0 (fun a b=>a+b) nx (K-P) n):=TY (by rw[a6.out];rfl);go_wp2;go_roundw
                   case rel=>exact⟨K+1,_,by omega,by go_num,TY (by rw[dN,<-bK.out,bX.out];exact bA.out.symm),eM.put gC k7⟩
                   case measure=>simp[intOf];omega
           . obtain rfl : K = 256 := by omega
             have zB:=bB.c1;have e1:bT s (i+1)=nx:=by rw[EJ];exact bK.out.symm
             have E1:=TY e1;clear e1;go_wp2;go_roundw
             case rel=>exact⟨i+1,gn,by omega,by go_num,rfl,by rw[E1.out];exact hst.2.1,hst.2.2.2.2.2⟩
             case measure=>simp[intOf];omega
     . obtain rfl : i = 64 := by omega
       have cS:0<(bT s 64).length:=by unfold bT;rw[yA];decide
       have zK:=b7.slot aJ Uf cS 0 (.int .i64 (bT s 64)[0]) rfl;rw[Ug,Uh]at zK;have cT:R=(bT s 64)[0]:=(by rw[HR.out,TZ,T9 cS,Uj]);rw[<-cT]at zK;clear cT;go_wp2;go_ret;exact⟨rfl,hA.tr bN⟩
end Go.Proofs.YtjijonhkofhikaaGreatDoor
