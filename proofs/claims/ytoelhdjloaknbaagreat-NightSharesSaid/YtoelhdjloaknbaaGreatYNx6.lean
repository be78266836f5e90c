/- What this claim rests on. -/
import Derived.Test.YtoelhdjloaknbaaGreatYNt1
import Derived.Test.YtoelhdjloaknbaaGreatYSa1
namespace Go.Proofs.YtoelhdjloaknbaaGreat
set_option maxRecDepth 100000
open Go.RowKit Go.Proofs.Tryz
def Gal.tks (g:Gal) (G:List Grp):List Int:=(Ngt.played g.w g.B (g.red G)).rides.map Bth.takes
def Gal.shE (g:Gal) (G:List Grp) (c:Int) (ws:List Int):Int:=if g.chkG G=0 then if Inn c 0 1000=true then Pu (AQ (g.tks G)*c) ws else 1 else g.chkG G
def Gal.shL (g:Gal) (G:List Grp) (c:Int) (ws:List Int):List Int:=if g.shE G c ws=0 then W5 (AQ (g.tks G)*c) ws else []
def ShR (σ:Hp) (g:Gal) (G:List Grp) (c:Int) (ws:List Int):aB:=fun v σ'=>∃ s:SL,v=.tuple #[s.v,aD (g.shE G c ws)]/\Hp.Sub σ σ'/\RdS aM σ' s.A s.n (g.shL G c ws)
theorem ShR.err {σ:Hp} {g:Gal} {G:List Grp} {c:Int} {ws:List Int} {e:Int} (h:g.shE G c ws=e) (h0:¬ e=0):ShR σ g G c ws (.tuple #[aN none 0 0,aD e]) σ:=by
 have h1:¬ g.shE G c ws=0:=by rw [h];exact h0
 refine ⟨⟨none,0,0⟩,by rw [h];rfl,Hp.Sub.refl _,?_⟩
 unfold Gal.shL
 rw [if_neg h1]
 exact SC
theorem ShR.of {σ:Hp} {g:Gal} {G:List Grp} {c:Int} {ws T:List Int} (hT:g.tks G=T) (h:g.shE G c ws=Pu (AQ T*c) ws) {v:Value} {s1 σ':Hp} (hs:Hp.Sub σ s1) (hv:AbZ s1 (AQ T*c) ws v σ'):ShR σ g G c ws v σ':=by
 obtain ⟨s,rfl,h1,h2⟩:=hv
 refine ⟨s,by rw [h],hs.trans h1,?_⟩
 unfold Gal.shL
 unfold Ad2 at h2
 rw [h,hT]
 exact h2
section
variable {g:Gal} {G:List Grp}
theorem Aho (hq:DB g.w g.B G=0):(g.tks G).length=g.B.length:=(Fs (BO (Gal.red_chk hq))).lt
theorem Ac4 {w:Int} {B:List BthG} {G:List Grp} {V:List Vis} {tk hd:List Int} (hv:Val w B G) (hm:MnD B G V tk hd):SmI tk/\(∀ x∈tk,0<=x)/\0<=AQ tk/\AQ tk<=600000:=by
 have hB:=hv.m
 have hl:=hm.lt
 have hn:=hv.n
 have h1:∀ x∈tk,0<=x:=fun x hx=>by
  obtain ⟨i,hi,rfl⟩:=List.getElem_of_mem hx
  have:=(hm.t i (by omega) (by omega)).1
  rw [Bw hi] at this
  exact this
 have h2:=Fu h1
 have h3:0<=AQ hd:=Fu fun x hx=>by
  obtain ⟨i,hi,rfl⟩:=List.getElem_of_mem hx
  have:=(hm.h i (by omega) (by rw [hm.lh] at hi;omega)).1
  rw [Bw hi] at this
  exact this
 have h4:AQ (G.map Grp.tokens)<=10000*(G.map Grp.tokens).length:=E8 fun x hx=>by
  obtain ⟨y,hy,rfl⟩:=List.mem_map.1 hx
  have:=hv.g y hy
  omega
 rw [List.length_map] at h4
 have h5:=hm.s
 refine ⟨⟨by omega,fun x hx=>?_⟩,h1,h2,by omega⟩
 obtain ⟨i,hi,rfl⟩:=List.getElem_of_mem hx
 have h7:=Td h1 i
 rw [Bw hi] at h7
 have:=h1 _ (List.getElem_mem hi)
 omega
theorem Te (hq:DB g.w g.B G=0):SmI (g.tks G)/\(∀ x∈g.tks G,0<=x)/\0<=AQ (g.tks G)/\AQ (g.tks G)<=600000:=Ac4 (BO (Gal.red_chk hq)) (Fs (BO (Gal.red_chk hq)))
theorem YN (hq:DB g.w g.B G=0) {c:Int} (hc:0<=c/\c<=1000):0<=AQ (g.tks G)*c/\AQ (g.tks G)*c<=600000000:=by
 obtain ⟨_,_,h1,h2⟩:=Te (G:=G) hq
 have h3:=Int.mul_le_mul_of_nonneg_right h2 hc.1
 have h4:(600000:Int)*c<=600000*1000:=Int.mul_le_mul_of_nonneg_left hc.2 (by omega)
 exact ⟨Int.mul_nonneg h1 hc.1,by omega⟩
end
section
variable {σ:Hp} {W:GaW} {g:Gal} {l:SL} {ws:Nat->SL} {G:List Grp}
theorem AeR {c:Int} {A:aA} {n k:Nat} {xs:List Int} (h:GaR σ W g) (he:EvR σ W.r g.B l ws G) (hx:RdS aM σ A n xs) (hl:xs.length<=4294967296):Ag prog 24 #[W.v g,l.v,aD c,aN A n k] σ (ShR σ g G c xs):=by
 apply TJ
 unfold JM
 refine AZ (aW 46) (VT h he) ?_
 rintro v σ2 (⟨e,rfl,rfl⟩ | ⟨e,b,ps,P,rfl,hs2,hN⟩)
 ·exact ⟨_,_,rfl,Bu (fun _=>Aj (ShR.err (by unfold Gal.shE;rw [if_neg e]) e)) (fun e2=>absurd e2 e)⟩
 obtain ⟨hg,hq⟩:=Gal.chkG_ok e
 have hn60:=(BO hq).n
 have hrd:=Gal.red_chk hq
 have eE:g.shE G c xs=if Inn c 0 1000=true then Pu (AQ (g.tks G)*c) xs else 1:=if_pos e
 refine ⟨_,_,rfl,Bu (fun e2=>absurd rfl e2) (fun _=>Afv (Bp (fun e3=>BN hs2 (ShR.err (by rw [eE,e3];rfl) (by decide))) (fun e3=>AD (Bg hN.b rfl (Bx hN.b rfl ?_)))))⟩
 rw [e3,if_pos rfl] at eE
 have hc:0<=c/\c<=1000:=of_decide_eq_true e3
 refine AZ (aW 54) (SW hN (h.r.sub hs2) (by omega)) ?_
 rintro v s10 ⟨s,ws',rfl,hs10,he10⟩
 refine ⟨_,_,_,rfl,hs10,?_⟩
 refine AZ (aW 55) (AgO (w:=g.w) he10) ?_
 rintro v σ13 ⟨s13,rfl,ho13⟩
 have hs13:=ho13.sub
 have eh:ofL (DB g.w g.B (g.red G)) ((Ngt.played g.w g.B (g.red G)).rides.map Bth.takes)=g.tks G:=Uj hrd
 have ho13:Ak 3 aM s10 s13.A s13.n s13.c (g.tks G) σ13:=(congrArg (fun z:List Int=>Ak 3 aM s10 s13.A s13.n s13.c z σ13) eh).mp ho13
 have hrdT:=ho13.RdI
 have hsσ:=hs2.trans (hs10.trans hs13)
 obtain ⟨t1,t2,t3,t4⟩:=Te (G:=G) hq
 have t5:=YN (G:=G) hq hc
 have htl:=Aho (G:=G) hq
 clear ho13 eh
 obtain ⟨T,hT⟩:∃ T,g.tks G=T:=⟨_,rfl⟩
 rw [hT] at t1 t2 t3 t4 t5 htl hrdT eE
 rw [hrd]
 refine ⟨_,_,_,_,rfl,Bu (fun e2=>absurd rfl e2) (fun _=>Ae fun J21 h21=>?_)⟩
 have hst:s13.n=T.length:=hrdT.lenI
 have hB:=(BO hq).m
 refine ⟨fun q s i τ=>∃ j:Nat,q=T.length-j/\s=AQ (T.take j)/\i=j/\j<=T.length/\τ=σ13,⟨_,0,rfl,rfl,rfl,by omega,rfl⟩,?_⟩
 rintro q s i τ ⟨j,rfl,rfl,rfl,hj,rfl⟩ _
 refine Ay (fun hlt=>?_) (fun hlt=>?_)
 ·have hjl:j<T.length:=by omega
  have es:=HG hjl
  have h1:=Fu fun x hx=>t2 x (List.mem_of_mem_take (i:=j+1) hx)
  have h2:=E8 (m:=2147483648) (l:=T.take (j+1)) fun x hx=>(t1.2 x (List.mem_of_mem_take hx)).2
  have h3:(T.take (j+1)).length<=T.length:=by rw [List.length_take];omega
  refine B1 hrdT (by omega) (by omega) ?_
  rw [← es]
  exact AL (by omega) (AL (by omega) (AY _ (by omega) ⟨j+1,rfl,rfl,rfl,by omega,rfl⟩))
 ·obtain rfl:j=T.length:=by omega
  rw [List.take_length,h21]
  intro _
  refine AL (by omega) ?_
  refine AZ (aW 56) (Ad8 (hx.sub hsσ) hl) ?_
  intro v s25 hv
  obtain ⟨s2,rfl,h1,h2⟩:=hv
  exact ⟨_,_,_,_,rfl,Aj (ShR.of hT eE hsσ ⟨s2,rfl,h1,h2⟩)⟩
theorem AeG {c:Int} {A:aA} {n k:Nat} {xs:List Int} (h:GaR σ W g) (he:EvR σ W.r g.B l ws G) (hB:g.B.length<=4294967296) (hcc:W.e.n<=W.e.c) (hG:G.length<=4294967296) (hW:∀ k,(h:k<G.length)->G[k].wants.length<=4294967296) (hx:RdS aM σ A n xs) (hl:xs.length<=65536):Ag prog 25 #[W.v g,l.v,aD c,aN A n k] σ (ShR σ g G c xs):=by
 apply TW
 unfold JP
 refine clI (aW 52) (Wy h he hB hcc hG hW) (Bu (fun e=>Aj (ShR.err (by unfold Gal.shE;rw [if_neg e]) e)) (fun e=>?_))
 obtain ⟨hg,hq⟩:=Gal.chkG_ok e
 have hv:=BO hq
 have hn60:=hv.n
 have hm8:=hv.m
 have eE:g.shE G c xs=if Inn c 0 1000=true then Pu (AQ (g.tks G)*c) xs else 1:=if_pos e
 refine Acy (Bp (fun e3=>Aj (ShR.err (by rw [eE,e3];rfl) (by decide))) (fun e3=>?_))
 rw [e3,if_pos rfl] at eE
 have hc:0<=c/\c<=1000:=of_decide_eq_true e3
 refine AZ (aW 57) (Ag6 h he hg hq hcc) ?_
 rintro v σ2 ⟨s,q,ws',ys,rfl,hs2,he2,_⟩
 refine ⟨_,_,_,_,_,_,rfl,?_⟩
 refine AZ (aW 58) (AbM (w:=g.w) he2 (by omega) (by rw [Gal.red_len];omega) (Afx hq)) ?_
 rintro v σ6 ⟨s6,rfl,hs6,hr6⟩
 have eh:ofL (DB g.w g.B (g.red G)) ((Ngt.played g.w g.B (g.red G)).rides.map Bth.takes)=g.tks G:=Uj (Gal.red_chk hq)
 have hr6:RdS aM σ6 s6.A s6.n (g.tks G):=(congrArg (fun z:List Int=>RdS aM σ6 s6.A s6.n z) eh).mp hr6
 obtain ⟨t1,t2,t3,t4⟩:=Te (G:=G) hq
 have t5:=YN (G:=G) hq hc
 obtain ⟨T,hT⟩:∃ T,g.tks G=T:=⟨_,rfl⟩
 rw [hT] at t1 t2 t3 t4 t5 hr6 eE
 refine ⟨_,_,_,_,rfl,clI (aW 60) (Aej hr6 t1 (by omega)) (AL (by omega) ?_)⟩
 refine AZ (aW 59) (Afl (hx.sub (hs2.trans hs6)) hl) ?_
 intro v s25 hv
 obtain ⟨s2,rfl,h1,h2⟩:=hv
 exact ⟨_,_,_,_,rfl,Aj (ShR.of hT eE (hs2.trans hs6) ⟨s2,rfl,h1,h2⟩)⟩
end
def Sn (B:List BthG) (G:List Grp) (v:Vis):Int:=if v.on=true then (bd B v.ride).price*(gd G v.1).size else 0
def pvs (B:List BthG) (G:List Grp) (V:List Vis):Int:=AQ (V.map (Sn B G))
theorem Ahw {n k:Nat} {p:Int} (hk:k<n):AQ ((List.range n).map fun r:Nat=>if k=r then p else 0)=p:=by
 have h0:∀ m,m<=k->AQ ((List.range m).map fun r:Nat=>if k=r then p else 0)=0:=by
  intro m
  induction m with
  | zero=>exact fun _=>rfl
  | succ m ih=>
   intro hm
   rw [List.range_succ,List.map_append,Dw,ih (by omega)]
   show 0+((if k=m then p else 0)+0)=0
   rw [if_neg (by omega)]
   rfl
 have h1:∀ m,k<m->AQ ((List.range m).map fun r:Nat=>if k=r then p else 0)=p:=by
  intro m
  induction m with
  | zero=>exact fun h=>by omega
  | succ m ih=>
   intro hm
   rw [List.range_succ,List.map_append,Dw]
   show _+((if k=m then p else 0)+0)=p
   rcases Nat.lt_or_ge k m with h2 | h2
   ·rw [ih h2,if_neg (by omega)]
    omega
   ·obtain rfl:k=m:=by omega
    rw [h0 k (Nat.le_refl _),if_pos rfl]
    omega
 exact h1 n hk
theorem ZZ {n:Nat}:AQ ((List.range n).map fun _:Nat=>(0:Int))=0:=by
 induction n with
 | zero=>rfl
 | succ n ih=>
  rw [List.range_succ,List.map_append,Dw,ih]
  rfl
theorem AfU {B:List BthG} {G:List Grp}:∀ {V:List Vis},(∀ v∈V,v.on=true->0<=v.ride/\v.ride<B.length)->AQ ((List.range B.length).map fun r:Nat=>pd B G V r)=pvs B G V
 | [],_=>ZZ
 | v::V,h=>by
  have ih:=AfU (B:=B) (G:=G) (V:=V) fun x hx=>h x (by simp [hx])
  have e1:((List.range B.length).map fun r:Nat=>pd B G (v::V) r)=(List.range B.length).map fun r:Nat=>(if v.on=true/\v.ride=r then (bd B r).price*(gd G v.1).size else 0)+pd B G V r:=List.map_congr_left fun r _=>rfl
  rw [e1,Th,ih]
  show _=Sn B G v+pvs B G V
  congr 1
  unfold Sn
  by_cases ho:v.on=true
  ·obtain ⟨r0,r1⟩:=h v (by simp) ho
   rw [if_pos ho]
   have e2:((List.range B.length).map fun r:Nat=>if v.on=true/\v.ride=r then (bd B r).price*(gd G v.1).size else 0)=(List.range B.length).map fun r:Nat=>if v.ride.toNat=r then (bd B v.ride).price*(gd G v.1).size else 0:=by
    refine List.map_congr_left fun r _=>?_
    by_cases e:v.ride.toNat=r
    ·have e3:v.ride=(r:Nat):=by omega
     rw [if_pos e,if_pos ⟨ho,e3⟩,e3]
    ·rw [if_neg e,if_neg fun x=>e (by omega)]
   rw [e2,Ahw (by omega)]
  ·rw [if_neg ho]
   have e2:((List.range B.length).map fun r:Nat=>if v.on=true/\v.ride=r then (bd B r).price*(gd G v.1).size else 0)=(List.range B.length).map fun _:Nat=>(0:Int):=List.map_congr_left fun r _=>if_neg fun x=>ho x.1
   rw [e2,ZZ]
theorem AgI {B:List BthG} {G:List Grp} {V:List Vis} {tk hd:List Int} (hm:MnD B G V tk hd) (h:∀ v∈V,v.on=true->0<=v.ride/\v.ride<B.length):AQ tk=pvs B G V:=by
 rw [← AfU h]
 congr 1
 refine List.ext_getElem (by simp [hm.lt]) fun i h1 h2=>?_
 rw [List.getElem_map,List.getElem_range,← Bw h1]
 exact hm.p i (by omega) (by rw [← hm.lt];omega)
theorem AfK {G:List Grp} {i:Int} (_:0<=i) (h1:i<G.length):gd G i=G[i.toNat]'(by omega):=by
 unfold gd
 simp [List.getD,show i.toNat<G.length by omega]
theorem Ahj {g:Gal} {G:List Grp} {i:Int} (h0:0<=i) (h1:i<G.length):(gd (g.red G) i).size=(gd G i).size:=by
 rw [AfK h0 (by rw [Gal.red_len];exact h1),AfK h0 h1]
 have:(g.red G)[i.toNat]'(by rw [Gal.red_len];omega)=AeF g.open (G[i.toNat]'(by omega)):=List.getElem_map ..
 rw [this]
 rfl
theorem Agb {g:Gal} {G:List Grp} {V:List Vis} (h:∀ v∈V,0<=v.1/\v.1<(g.red G).length):pvs g.B G (V.map (g.tell G))=pvs g.B (g.red G) V:=by
 unfold pvs
 rw [List.map_map]
 congr 1
 refine List.map_congr_left fun v hv=>?_
 obtain ⟨v0,v1⟩:=h v hv
 rw [Gal.red_len] at v1
 show Sn g.B G (g.tell G v)=_
 unfold Sn
 show (if v.on=true then (bd g.B v.ride).price*(gd G v.1).size else 0)=_
 rw [Ahj v0 v1]
theorem AbR {g:Gal} {G:List Grp} (h:g.chkG G=0):∀ x∈g.plays G,(0<=x.1/\x.1<G.length)/\0<=x.ride/\x.ride<g.B.length:=fun x hx=>by
 obtain ⟨hg,hq⟩:=Gal.chkG_ok h
 have hv:=BO (Gal.red_chk hq)
 have hvi:=(Ze hv).2
 have hm:=(Fs hv).r
 have e:g.plays G=(Ngt.played g.w g.B (g.red G)).visits.map (g.tell G):=if_pos h
 rw [e] at hx
 obtain ⟨v,hv',rfl⟩:=List.mem_map.1 hx
 have h1:=hvi v hv'
 rw [Gal.red_len] at h1
 exact ⟨⟨h1.1,h1.2.1⟩,hm v hv'⟩
theorem AgM {g:Gal} {G:List Grp} (h:g.chkG G=0):AQ (g.tks G)=pvs g.B G (g.plays G):=by
 obtain ⟨hg,hq⟩:=Gal.chkG_ok h
 have hv:=BO (Gal.red_chk hq)
 have hvi:=(Ze hv).2
 have e:g.plays G=(Ngt.played g.w g.B (g.red G)).visits.map (g.tell G):=if_pos h
 rw [e,Agb fun v hx=>⟨(hvi v hx).1,(hvi v hx).2.1⟩]
 exact AgI (Fs hv) fun v hx _=>(Fs hv).r v hx
end Go.Proofs.YtoelhdjloaknbaaGreat
