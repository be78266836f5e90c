/- What this claim rests on. -/
import Derived.Test.YtoelhdjloaknbaaGreatVNt1
import Derived.Test.YtoelhdjloaknbaaGreatVNo1
namespace Go.Proofs.YtoelhdjloaknbaaGreat
open Go.RowKit Go.Proofs.Tryz
def Jv (G:List Grp):Nat->List Int
 | 0=>[]
 | k+1=>L1 (UW G) k (Jv G k++[(k:Int)])
theorem Qt (G:List Grp):∀ k,(Jv G k).length=k
 | 0=>rfl
 | k+1=>by
  unfold Jv
  rw [Uh,List.length_append,Qt G k]
  rfl
theorem Acy {A B:List Int} {j:Nat} (h:j+1<A.length):swp2 (A++B) j=swp2 A j++B:=by
 unfold swp2
 have e1:gt (A++B) j=gt A j:=Ju (by omega)
 have e2:gt (A++B) ((j+1:Nat):Int)=gt A ((j+1:Nat):Int):=Ju h
 rw [e1,e2,List.set_append_left _ _ h,List.set_append_left _ _ (by simp;omega)]
theorem Xz {cf:Int->Int->Int}:∀ (j:Nat) (A B:List Int),j<A.length->L1 cf j (A++B)=L1 cf j A++B
 | 0,_,_,_=>rfl
 | j+1,A,B,h=>by
  unfold L1
  have e1:gt (A++B) j=gt A j:=Ju (by omega)
  have e2:gt (A++B) ((j+1:Nat):Int)=gt A ((j+1:Nat):Int):=Ju h
  rw [e1,e2]
  split
  ·rw [Acy h,Xz j _ _ (by rw [Mx];omega)]
  ·rfl
theorem VD {G:List Grp}:∀ k,k<=G.length->H3 (UW G) k (idl G.length)=Jv G k++(idl G.length).drop k
 | 0,_=>by simp [H3,Jv]
 | k+1,hk=>by
  have ih:=VD (G:=G) k (by omega)
  unfold H3 Jv
  rw [ih,XH (by omega)]
  have e:Jv G k++(k:Int)::(idl G.length).drop (k+1)=(Jv G k++[(k:Int)])++(idl G.length).drop (k+1):=by simp
  rw [e,Xz]
  rw [List.length_append,Qt]
  simp
theorem AbA {G:List Grp}:Jv G G.length=N8 G:=by
 have hl:(idl G.length).length=G.length:=by simp [idl]
 unfold N8
 rw [hl]
 rcases Nat.eq_zero_or_pos G.length with h0 | h0
 ·rw [h0]
  rfl
 ·rw [show max G.length 1=G.length by omega,VD _ (Nat.le_refl _)]
  have:(idl G.length).drop G.length=[]:=by simp [idl]
  rw [this,List.append_nil]
theorem Yd {cf:Int->Int->Int} {P:Int->Prop}:∀ (j:Nat) (xs:List Int),j<xs.length->QY P xs->QY P (L1 cf j xs)
 | 0,_,_,h=>h
 | j+1,xs,hj,h=>by
  unfold L1
  split
  ·exact Yd j _ (by rw [Mx];omega) (h.swp2 (by omega))
  ·exact h
theorem Z7 {G:List Grp}:∀ k,k<=G.length->QY (fun a=>0<=a/\a<G.length) (Jv G k)
 | 0,_=>fun i hi=>absurd hi (Nat.not_lt_zero _)
 | k+1,hk=>by
  unfold Jv
  have hl:=Qt G k
  refine Yd k _ (by rw [List.length_append,hl];simp) fun i hi=>?_
  rw [List.length_append,hl] at hi
  simp only [List.length_cons,List.length_nil] at hi
  rcases Nat.lt_or_ge i k with h1 | h1
  ·rw [Ju (by omega)]
   exact Z7 k (by omega) i (by omega)
  ·obtain rfl:i=k:=by omega
   have e:=QL (A:=Jv G i) (B:=[]) (x:=(i:Int))
   rw [hl] at e
   rw [e]
   omega
def Od (F:List Bool) (k:Nat):List Nat:=(List.range k).filter fun j=>F.getD j false
theorem Vu {F:List Bool} {k:Nat}:Od F (k+1)=if F.getD k false=true then Od F k++[k] else Od F k:=by
 unfold Od
 have ef:[k].filter (fun j=>F.getD j false)=if F.getD k false=true then [k] else []:=by rw [List.filter_cons,List.filter_nil]
 rw [List.range_succ,List.filter_append,ef]
 by_cases e:F.getD k false=true
 ·rw [if_pos e,if_pos e]
 ·rw [if_neg e,if_neg e,List.append_nil]
theorem Yw {F:List Bool} (k:Nat):(Od F k).length<=k:=by
 have:=List.length_filter_le (fun j=>F.getD j false) (List.range k)
 rw [List.length_range] at this
 exact this
section
variable {σ:Hp} {W:GaW} {g:Gal} {l:SL} {ws:Nat->SL} {G:List Grp} {m:Int}
theorem AdM {ws ws':Nat->SL} {i j:Nat} {x:Grp} (h:ws' i=ws j):Cy ws' i x=Cy ws j x:=congrArg (fun s:SL=>((x.came,x.size,x.tokens,(s.A,s.n,s.c),x.patience):GRow)) h
def Q1 (G:List Grp) (ws:Nat->SL) (D:List Nat):List (TyR sG):=D.map fun j:Nat=>Cy ws j (gd G (j:Nat))
theorem AdH {F:List Bool}:(FM G F).mapIdx (Cy fun i=>ws ((Cq F).getD i 0))=Q1 G ws (Cq F):=by
 refine List.ext_getElem (by simp [Q1,FM]) fun i h1 h2=>?_
 have hi:i<(Cq F).length:=by simpa [Q1] using h2
 have e1:(Q1 G ws (Cq F))[i]=Cy ws (Cq F)[i] (gd G ((Cq F)[i]:Nat)):=List.getElem_map ..
 rw [List.getElem_mapIdx,e1,Wy]
 have e2:(Cq F).getD i 0=(Cq F)[i]:=by simp [List.getD,hi]
 exact AdM (congrArg ws e2)
theorem AfI {F:List Bool} {A:aA} {n c:Nat} (he:EvR σ W.r g.B l ws G) (hl:F.length=G.length) (ho:RdS sG σ A n (Q1 G ws (Cq F))):EvR σ W.r g.B ⟨A,n,c⟩ (fun i=>ws ((Cq F).getD i 0)) (FM G F):=by
 refine ⟨he.r,(congrArg (fun z:List (TyR sG)=>RdS sG σ A n z) AdH).mpr ho,fun i hi=>?_⟩
 have hi':i<(Cq F).length:=by rw [JA] at hi;exact hi
 have hj:=(Hi.1 (List.getElem_mem hi')).1
 have e2:(Cq F).getD i 0=(Cq F)[i]:=by simp [List.getD,hi']
 rw [Wy hi,MW (by omega)]
 show RdS aM σ (ws ((Cq F).getD i 0)).A (ws ((Cq F).getD i 0)).n _
 rw [e2]
 exact he.w _ (by omega)
end
section
variable {σ:Hp} {W:GaW} {g:Gal} {l:SL} {ws:Nat->SL} {G:List Grp} {m:Int}
theorem EvR.gix5 {r:SL} {B:List BthG} (h:EvR σ r B l ws G) {k:Nat} (hk:k<G.length) {K:Nat->Nat->Prop}
  (hK:∀ b o,σ.cell? ⟨b,o,none⟩=some (aD (gd G (k:Nat)).came)->σ.cell? ⟨b,o+1,none⟩=some (aD (gd G (k:Nat)).size)->σ.cell? ⟨b,o+2,none⟩=some (aD (gd G (k:Nat)).tokens)->σ.cell? ⟨b,o+3,none⟩=some (ws k).v->σ.cell? ⟨b,o+4,none⟩=some (aD (gd G (k:Nat)).patience)->K b o):ix l.A l.n (k:Nat) 5 K:=by
 rw [MW hk] at hK
 exact h.group hk hK
theorem Acz {D:List Nat} {j:Nat}:nIz (D++[j])=nIz D++[(j:Int)]:=by simp [nIz]
theorem W6 {F:List Bool}:Od F F.length=Cq F:=rfl
theorem AcG {xs:List Bool} {i:Nat} {K:Bool->Prop} (hi:i<xs.length) (hk:K (xs.getD i false)):0<=(i:Int)/\(i:Int)<(xs.length:Int)/\lat xs (i:Int).toNat K:=by
 refine ⟨by omega,by omega,?_⟩
 rw [Int.toNat_natCast]
 refine YX hi ?_
 have e:xs.getD i false=xs[i]:=by simp [List.getD,hi]
 rw [e] at hk
 exact hk
set_option maxRecDepth 100000 in
theorem Ab9 (h:GaR σ W g) (he:EvR σ W.r g.B l ws G) (hB:g.B.length<=4294967296) (hc:W.e.n<=W.e.c) (hG:G.length<=4294967296) (hW:∀ k,(h:k<G.length)->G[k].wants.length<=4294967296):Af prog 21 #[W.v g,l.v,aD m] σ (AdR σ g G m):=by
 apply R1
 unfold Jc
 refine clI (aW 52) (UO h he hB hc hG hW) (Bs (fun e=>Ai (AdR.err (by unfold Gal.admE;rw [if_neg e]) e)) (fun e=>?_))
 obtain ⟨hg,hq⟩:=Gal.chkG_ok e
 have hv:=CB hq
 have hn60:=hv.n
 have eE:g.admE G m=if Inn m 0 10000=true then 0 else 1:=if_pos e
 refine Aai (Bp (fun e3=>Ai (AdR.err (by rw [eE,e3];rfl) (by decide))) (fun e3=>?_))
 rw [e3,if_pos rfl] at eE
 have hln:=he.lenL
 have hcam:∀ x∈G,0<=x.came/\x.came<=4000:=fun x hx=>by have:=hv.g x hx;omega
 refine Ad fun J9 h9=>?_
 have k9:J9 (N8 G) σ:=by
  rw [h9]
  intro _
  refine ⟨by omega,by omega,by omega,Ad fun J13 h13=>?_⟩
  obtain ⟨_,hOl,_⟩:=JQ (G:=G)
  have hrep:(List.replicate ((l.n:Int):Int).toNat false:List Bool)=g.admF G m 0:=by
   rw [Int.toNat_natCast,hln]
   rfl
  rw [hrep]
  refine ⟨fun q i F τ=>∃ k:Nat,q=G.length-k/\i=k/\k<=G.length/\F=g.admF G m k/\Hp.Sub σ τ,⟨_,0,rfl,rfl,by omega,rfl,Hp.Sub.refl _⟩,?_⟩
  rintro q i F τ ⟨k,rfl,rfl,hk,rfl,hsτ⟩ _
  have hFl:=Qf (g:=g) (m:=m) k hk
  refine Az (fun hlt=>?_) (fun hlt=>?_)
  ·have hkl:k<G.length:=by omega
   obtain ⟨i,hi,ei,hin⟩:=Wj hkl
   have hstep:=NG (g:=g) (m:=m) hkl
   rw [ei] at hstep
   unfold Gal.adm1 at hstep
   rw [Int.toNat_natCast] at hstep
   have hgi:=hv.g _ (List.getElem_mem hi)
   rw [← MW hi] at hgi
   have het:=he.sub hsτ
   refine Ad fun J45 h45=>⟨by omega,by omega,JC (by omega) (by omega) ?_⟩
   rw [ei]
   refine het.gix5 hi fun b o c0 c1 c2 c3 c4=>AV c0 (AV c1 (AV c2 (CI c3 (AV c4 ?_))))
   have hS:=Xh (F:=g.admF G m k) hFl hq
   have hvS:=CB hS
   have hSl:=JA (G:=G) (F:=g.admF G m k)
   have hAl:=M3 (F:=g.admF G m k)
   have hnN:g.admN G (g.admF G m k) i=(gd G (i:Nat)).size+stN (FM G (g.admF G m k)) (g.homes (FM G (g.admF G m k))) (gd G (i:Nat)).came (FM G (g.admF G m k)).length:=rfl
   refine Ad fun J60 h60=>?_
   have k60:∀ A n c t',Hp.Sub τ t'->RdS sG t' A n (Q1 G ws (Cq (g.admF G m k)))->J60 A n c t':=by
    intro A n c t' hs' hrd
    rw [h60]
    intro _
    obtain ⟨s61,hs61⟩:∃ s:SL,s=⟨A,n,c⟩:=⟨_,rfl⟩
    obtain ⟨ws2,hEv⟩:∃ ws2,EvR t' W.r g.B s61 ws2 (FM G (g.admF G m k)):=⟨_,by rw [hs61];exact AfI (c:=c) (he.sub (hsτ.trans hs')) hFl hrd⟩
    have eA:A=s61.A:=by rw [hs61]
    have en:n=s61.n:=by rw [hs61]
    have ec:c=s61.c:=by rw [hs61]
    rw [eA,en,ec]
    clear hrd
    have hSn:=hEv.lenL
    refine Bd (aW 53) (Adj (h.sub (hsτ.trans hs')) hEv hg hS hc) ?_
    rintro v s63 ⟨s,rfl,hs63,hrH⟩
    have hEv:=hEv.sub hs63
    have hhl:=Sw (g:=g) (G:=FM G (g.admF G m k))
    generalize g.homes (FM G (g.admF G m k))=hs at *
    refine ⟨_,_,_,rfl,Ad fun J67 h67=>?_⟩
    have k67:J67 ((gd G (i:Nat)).size+stN (FM G (g.admF G m k)) hs (gd G (i:Nat)).came (FM G (g.admF G m k)).length) s63:=by
     rw [h67]
     intro _
     rw [← hnN]
     refine ⟨by omega,by omega,JC (by omega) (by omega) ?_⟩
     rw [ei]
     refine AcG (by omega) ?_
     rw [Int.toNat_natCast,← hstep,h45]
     intro _
     exact AQ (by omega) (AX _ (by omega) ⟨k+1,rfl,by omega,by omega,rfl,hsτ.trans (hs'.trans hs63)⟩)
    clear h67 h45
    generalize FM G (g.admF G m k)=S at *
    refine ⟨fun q n i' t2=>∃ j:Nat,q=S.length-j/\n=(gd G (i:Nat)).size+stN S hs (gd G (i:Nat)).came j/\i'=j/\j<=S.length/\t2=s63,⟨_,0,rfl,by simp [stN],rfl,by omega,rfl⟩,?_⟩
    rintro q n' i' t2 ⟨j,rfl,rfl,rfl,hj,rfl⟩ _
    refine Az (fun hlt2=>?_) (fun hlt2=>?_)
    ·have hjl:j<S.length:=by omega
     have hb1:=Wb hvS (hs:=hs) (t:=(gd G (i:Nat)).came) (j+1) (by omega)
     refine Ad fun J79 h79=>Ad fun J86 h86=>?_
     have k86:∀ t,t=decide (gt hs (j:Nat)<0∨(gd G (i:Nat)).came<=gt hs (j:Nat))->J86 t t2:=by
      rintro t rfl
      rw [h86]
      intro _
      have k79:J79 ((gd G (i:Nat)).size+stN S hs (gd G (i:Nat)).came (j+1)) t2:=by
       rw [h79]
       intro _
       exact AQ (by omega) (AX _ (by omega) ⟨j+1,rfl,rfl,by omega,by omega,rfl⟩)
      unfold stN at k79 hb1
      refine Az (fun a=>?_) (fun a=>?_)
      ·rw [if_pos a] at k79 hb1
       refine hEv.gix (by omega) (by omega) fun b o _ c1 _ _ _=>AV c1 (AQ (by omega) ?_)
       rw [Int.add_assoc]
       exact k79
      ·rw [if_neg a,Int.add_zero] at k79
       exact k79
     clear h86 h79
     refine Ch hrH (by omega) (by omega) (Az (fun a=>k86 _ (by rw [decide_eq_true (.inl a)])) (fun a=>Ch hrH (by omega) (by omega) (k86 _ ?_)))
     exact decide_eq_decide.2 ⟨fun x=>.inr x,fun x=>by omega⟩
    ·obtain rfl:j=S.length:=by omega
     exact k67
   clear h60 h45
   generalize g.admF G m k=F at *
   refine ⟨fun q A n c j' t2=>∃ j:Nat,q=G.length-j/\j'=j/\j<=G.length/\Aj 65 sG τ A n c (Q1 G ws (Od F j)) t2,⟨_,0,rfl,rfl,by omega,Aj.nil ..⟩,?_⟩
   rintro q A n c j' t2 ⟨j,rfl,rfl,hj,ho⟩ _
   refine Az (fun hlt2=>?_) (fun hlt2=>?_)
   ·have hjl:j<G.length:=by omega
    have hJ:=Vu (F:=F) (k:=j)
    have hJl:=Yw (F:=F) j
    refine Ad fun J106 h106=>AcG (by omega) ?_
    have k106:∀ A n c t3,Aj 65 sG τ A n c (Q1 G ws (Od F (j+1))) t3->J106 A n c t3:=by
     intro A n c t3 h3
     rw [h106]
     intro _
     exact AQ (by omega) (AX _ (by omega) ⟨j+1,rfl,by omega,by omega,h3⟩)
    rw [hJ] at k106
    refine BO (fun a=>?_) (fun a=>?_)
    ·rw [if_pos a] at k106
     refine (het.sub ho.sub).gix5 hjl fun b o c0 c1 c2 c3 c4=>AV c0 (AV c1 (AV c2 (CI c3 (AV c4 ?_))))
     have hal:(Q1 G ws (Od F j)).length=(Od F j).length:=by simp [Q1]
     refine ⟨_,τ,ho,AY (by show (Q1 G ws (Od F j)).length+1<=_;omega) fun A2 n2 c2 t3 ho3=>k106 _ _ _ _ ?_⟩
     have:Q1 G ws (Od F j++[j])=Q1 G ws (Od F j)++[Cy ws j (gd G (j:Nat))]:=by simp [Q1]
     rw [this]
     exact ho3
    ·rw [if_neg (by rw [a];decide)] at k106
     exact k106 _ _ _ _ ho
   ·obtain rfl:j=G.length:=by omega
    refine k60 A n c t2 ho.sub ?_
    rw [← W6,hFl]
    exact Aj.rd ho
  ·obtain rfl:k=G.length:=by omega
   rw [h13]
   intro _
   have hadm:g.admits G m=nIz (Cq (g.admF G m G.length)):=if_pos eE
   refine Ad fun J17 h17=>?_
   generalize g.admF G m G.length=F at *
   refine ⟨fun q A n c j' t2=>∃ j:Nat,q=G.length-j/\j'=j/\j<=G.length/\Aj 3 aM τ A n c (nIz (Od F j)) t2,⟨_,0,rfl,rfl,by omega,Aj.nil ..⟩,?_⟩
   rintro q A n c j' t2 ⟨j,rfl,rfl,hj,ho⟩ _
   refine Az (fun hlt2=>?_) (fun hlt2=>?_)
   ·have hjl:j<G.length:=by omega
    have hJ:=Vu (F:=F) (k:=j)
    have hJl:=Yw (F:=F) j
    refine Ad fun J27 h27=>AcG (by omega) ?_
    have k27:∀ A n c t3,Aj 3 aM τ A n c (nIz (Od F (j+1))) t3->J27 A n c t3:=by
     intro A n c t3 h3
     rw [h27]
     intro _
     exact AQ (by omega) (AX _ (by omega) ⟨j+1,rfl,by omega,by omega,h3⟩)
    rw [hJ] at k27
    refine BO (fun a=>?_) (fun a=>?_)
    ·rw [if_pos a,Acz] at k27
     exact ⟨_,τ,ho,AY (by show (nIz (Od F j)).length+1<=_;rw [K1];omega) fun A2 n2 c2 t3 ho3=>k27 _ _ _ _ ho3⟩
    ·rw [if_neg (by rw [a];decide)] at k27
     exact k27 _ _ _ _ ho
   ·obtain rfl:j=G.length:=by omega
    rw [h17]
    intro _
    refine Ai ⟨⟨A,n,c⟩,by rw [eE];rfl,hsτ.trans ho.sub,?_⟩
    rw [hadm,← W6,hFl]
    exact ho.RdI
 clear h9
 refine ⟨fun q xs i τ=>∃ k:Nat,q=G.length-k/\xs=Jv G k/\i=k/\k<=G.length/\τ=σ,⟨_,Dz.2 ⟨0,rfl,rfl,rfl,by omega,rfl⟩⟩,?_⟩
 rintro q xs i τ ⟨k,rfl,rfl,rfl,hk,rfl⟩ _
 have hol:=Qt G k
 refine Az (fun hlt=>?_) (fun hlt=>?_)
 ·have hkl:k<G.length:=by omega
  refine Ad fun J133 h133=>AY (by show (Jv G k).length+1<=_;omega) ?_
  have k133:J133 (Jv G (k+1)) τ:=by
   rw [h133]
   intro _
   exact AQ (by omega) (AX _ (by omega) ⟨k+1,rfl,rfl,by omega,by omega,rfl⟩)
  clear h133
  have hall:QY (fun a=>0<=a/\a<G.length) (Jv G k++[(k:Int)]):=fun i hi=>by
   rw [List.length_append,hol] at hi
   simp only [List.length_cons,List.length_nil] at hi
   rcases Nat.lt_or_ge i k with h1 | h1
   ·rw [Ju (by omega)]
    exact Z7 k hk i (by omega)
   ·obtain rfl:i=k:=by omega
    have e:=QL (A:=Jv G i) (B:=[]) (x:=(i:Int))
    rw [hol] at e
    rw [e]
    omega
  refine ⟨fun q j' ys t2=>∃ j:Nat,q=j/\j'=j/\j<=k/\ys.length=k+1/\L1 (UW G) j ys=Jv G (k+1)/\QY (fun a=>0<=a/\a<G.length) ys/\t2=τ,⟨_,k,rfl,rfl,by omega,by rw [List.length_append,hol];rfl,rfl,hall,rfl⟩,?_⟩
  rintro q j' ys t2 ⟨j,rfl,rfl,hj,hyl,hins,hP,rfl⟩ _
  refine Ad fun J146 h146=>Ad fun J158 h158=>?_
  cases q with
  | zero=>
   refine Az (fun x=>absurd x (by omega)) (fun _=>?_)
   rw [h158]
   intro _
   refine AeQ ?_
   have e:ys=Jv G (k+1):=hins
   rw [e]
   exact k133
  | succ j=>
   have e1:((j+1:Nat):Int)-1=(j:Nat):=by omega
   have hp1:=hP (j+1) (by omega)
   have hp0:=hP j (by omega)
   have hins':(if UW G (gt ys ((j+1:Nat):Int)) (gt ys (j:Nat))<0 then L1 (UW G) j (swp2 ys j) else ys)=Jv G (k+1):=hins
   refine Az (fun _=>⟨by omega,by omega,JC (by omega) (by omega) ?_⟩) (fun x=>absurd (by omega) x)
   refine he.gix hp1.1 hp1.2 fun b o c0 _ _ _ _=>AV c0 (AQ (by omega) ?_)
   rw [e1]
   refine ⟨by omega,by omega,JC (by omega) (by omega) ?_⟩
   refine he.gix hp0.1 hp0.2 fun b o c0 _ _ _ _=>AV c0 ?_
   rw [h158]
   intro _
   have hcc:UW G (gt ys ((j+1:Nat):Int)) (gt ys (j:Nat))<0↔(gd G (gt ys ((j+1:Nat):Int))).came<(gd G (gt ys (j:Nat))).came:=by
    unfold UW
    omega
   refine Az (fun a=>?_) (fun a=>?_)
   ·rw [if_pos (hcc.2 a)] at hins'
    rw [h146]
    intro _
    refine AQ (by omega) (AQ (by omega) ?_)
    rw [e1]
    refine ⟨by omega,by omega,JC (by omega) (by omega) ⟨by omega,by omega,JC (by omega) (by omega) ⟨by omega,by omega,JC (by omega) (by omega) ⟨by omega,by rw [List.length_set];omega,?_⟩⟩⟩⟩
    simp only [Int.toNat_natCast]
    refine YX (by rw [List.length_set];omega) (AQ (by omega) (AX j (by omega) ⟨j,rfl,by omega,by omega,by rw [List.length_set,List.length_set];exact hyl,hins',hP.swp2 (by omega),rfl⟩))
   ·rw [if_neg (fun x=>a (hcc.1 x))] at hins'
    rw [hins']
    exact k133
 ·obtain rfl:k=G.length:=by omega
  rw [AbA]
  exact k9
end
end Go.Proofs.YtoelhdjloaknbaaGreat
