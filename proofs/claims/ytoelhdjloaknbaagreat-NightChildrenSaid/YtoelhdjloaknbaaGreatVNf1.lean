/- Trimmed by wip/trim.py to what this claim rests on. -/
import Derived.Test.YtoelhdjloaknbaaGreatVNd1
import Derived.Test.YtoelhdjloaknbaaGreatVR4
import Derived.Test.YtoelhdjloaknbaaGreatVW1
namespace Go.Proofs.YtoelhdjloaknbaaGreat
open Go.RowKit
section
variable {σ:Hp} {W:GaW} {g:Gal}
theorem ZX:Ae Tryz.prog Po #[] σ fun v σ'=>∃ (W:GaW) (l:SL) (ws:Nat->SL),v=.tuple #[W.v NC,l.v]/\Hp.Sub σ σ'/\GaR σ' W NC/\EvR σ' W.r exB l ws exG:=by
 refine Mx _ _ ?_
 unfold Fs
 refine AU JO V9 ?_
 rintro v σ2 ⟨r,l,ws,rfl,hs,he⟩
 refine ⟨_,_,_,_,_,_,_,rfl,?_⟩
 intro A6 n6 c6 σ7 o6 A8 n8 c8 σ9 o8 A10 n10 c10 σ11 o10 A12 n12 c12 σ13 o12 A14 n14 c14 σ15 o14 A16 n16 c16 σ17 o16 A18 n18 c18 σ19 o18
 have t18:=o18.sub
 have t16:=o16.sub.trans t18
 have t14:=o14.sub.trans t16
 have t12:=o12.sub.trans t14
 have t10:=o10.sub.trans t12
 have t8:=o8.sub.trans t10
 have t6:=o6.sub.trans t8
 refine Al ⟨⟨r,⟨sl0,⟨A6,n6,c6⟩,⟨A8,n8,c8⟩⟩,⟨A14,n14,c14⟩,⟨⟨A10,n10,c10⟩,⟨A12,n12,c12⟩⟩,⟨A16,n16,c16⟩,⟨A18,n18,c18⟩⟩,l,ws,rfl,hs.trans t6,?_,he.sub t6⟩
 exact ⟨(he.sub t6).r,⟨⟨⟨rfl,.inl rfl⟩,o6.rd.sub t8,o8.rd.sub t10⟩,o14.rd.sub t16⟩,⟨o10.rd.sub t12,o12.rd.sub t14⟩,o16.rd.sub t18,o18.rd⟩
theorem Vr:Ae Tryz.prog LO #[] σ fun v σ'=>v=.bool true/\σ'=σ:=by
 refine NY _ _ ?_
 unfold HI
 refine AU JY ZX ?_
 rintro v σ2 ⟨W,l,ws,rfl,hs,hg,he⟩
 refine ⟨_,_,_,_,_,_,_,_,_,_,_,_,_,_,_,_,_,_,_,_,_,_,_,_,_,_,_,_,_,_,_,_,_,_,_,rfl,?_⟩
 refine AU LH (XV hg) ?_
 rintro v σ19 ⟨A,n,c,rfl,ho⟩
 have e1:NC.opn=[0]:=(if_pos Q3).trans P1
 have ho:Ak 3 [.int .i64] σ2 A n c ([0]:List Int) σ19:=(congrArg (fun z:List Int=>Ak 3 [.int .i64] σ2 A n c z σ19) e1).mp ho
 have hrd:RdS [.int .i64] σ19 A n ([0]:List Int):=ho.RdI
 have hl:=hrd.lenI
 have hl:n=1:=hl
 refine ⟨_,_,_,_,rfl,?_⟩
 refine AU Kg (VC (hg.sub ho.sub) (he.sub ho.sub)) ?_
 rintro v σ23 ⟨rfl,rfl⟩
 rw [Yg,PU,Q3]
 refine ⟨_,_,rfl,AD (fun _=>AD (fun _=>AD (fun _=>Io hrd (by omega) (by decide) (AD (fun _=>Bl (hs.trans ho.sub) ⟨rfl,rfl⟩) (fun h=>absurd rfl h))) (fun h=>absurd (by rw [hl];rfl) h)) (fun h=>absurd rfl h)) (fun h=>absurd rfl h)⟩
theorem Oa {K:Bool->Hp->Prop} (h:K true σ):cl Tryz.prog (.func (.func LO) #[] #[]) #[] σ fun v σ'=>∃ t:Bool,(v=.bool t/\K t σ'):=clB Lu Vr h
end
end Go.Proofs.YtoelhdjloaknbaaGreat
