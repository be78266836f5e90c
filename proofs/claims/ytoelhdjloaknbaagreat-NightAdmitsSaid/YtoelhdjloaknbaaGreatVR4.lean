/- What this claim rests on. -/
import Derived.Test.YtoelhdjloaknbaaGreatVB11
namespace Go.Proofs.YtoelhdjloaknbaaGreat
set_option maxRecDepth 100000
open Go.RowKit Go.Proofs.Tryz
def aQ (x:MAn):MAn:=.seq (.txt []) x
def tkVR4:Nat->Nat->OA->MPlan->MPlan
 |0,_,_,x=>x
 |n+1,i,a,x=>.take i a (tkVR4 n (i+1) a x)
theorem F8:prog.follows .mixedOrders=true:=by kernel_rfl
def Kg (σ:Hp) (n low high:Int) (R:aB):Prop:=
 bc (decide (low<=n)) (rt σ R (.bool (decide (n<=high)))) (rt σ R (.bool false))
def TE:MAn:=(aQ (.seq (.txt [⟨[],false,[]⟩,⟨[],false,[]⟩,⟨[],false,[]⟩,⟨[],true,[]⟩]) .leaf))
theorem TG (σ:Hp) (n low high:Int) (R:aB) (h:Kg σ n low high R):Af prog 40 #[aD n,aD low,aD high] σ R:=
 Ae F8 TE Tryz.func40 rfl (h:=h)
def Jd (σ:Hp) (j0:aA) (a0 k0:Nat) (t0:Int) (q0:aA) (p0 v0:Nat) (n0:aA) (m0 u0:Nat) (i0:aA) (f0 r0:Nat) (x0:aA) (y0 a1:Nat) (b2:Int) (c0:aA) (b0 d0:Nat) (g0:aA) (e0 h0:Nat) (o0 s0 l0:Int) (i1:aA) (f1 _:Nat) (q1:aA) (m1 _:Nat) (R:aB):Prop:=
 aC 77 #[(.agg #[aN j0 a0 k0,aD t0]),aN none 0 0] σ (aJ fun n3 σ2=>(bc (!decide (n3=0)) (rt σ2 R (aD n3)) (aC 78 #[(.agg #[aN q0 p0 v0,aN n0 m0 u0,aN i0 f0 r0]),aN x0 y0 a1] σ2 (fun v4 s5=>
  ∃ n6 n7:Int,(v4=(.tuple #[aD n6,aD n7])/\bc (!decide (n7=0)) (rt s5 R (aD n7)) (aC 79 #[(.agg #[aN c0 b0 d0,aN g0 e0 h0,aD o0,aD s0,aD l0])] s5 (aJ fun n10 s9=>(bc (!decide (n10=0)) (rt s9 R (aD n10)) (aF (fun s12=>aF (fun s15=>rt s15 R (aD 0)) (fun J16=>
  ∃ I19:Nat->Int->Hp->Prop,(∃ n200,I19 n200 0 s12)/\∀ n20 n21 s18,I19 n20 n21 s18->∀ _:Nat->Value,bc (decide (n21<(a0:Int))) (aF (fun s23=>wk .i64 (n21+1) (fun n25=>bk s23 n20 (fun m26 s27=>I19 m26 n25 s27))) (fun J24=>
  aG (fun t31 s29=>bc t31 (rt s29 R (aD 120)) (J24 s29)) (fun J30=>
  ix i1 f1 n21 1 (fun b32 a33=>ldI s18 .i64 b32 a33 (fun n34=>aC 40 #[aD n34,aD 0,aD 200] s18 (aI fun t37 s36=>(bc (!t37) (J30 true s36) (ix q1 m1 n21 1 (fun b38 a39=>
  ldI s36 .i64 b38 a39 (fun n40=>aC 40 #[aD n40,aD 0,aD 100] s36 (aI fun t43 s42=>(J30 (!t43) s42)))))))))))) (J16 s18))) (fun J13=>aG (fun t47 s45=>bc t47 (rt s45 R (aD 120)) (J13 s45)) (fun J46=>bc (!decide ((f0:Int)=(a0:Int))) (J46 true s9) (bc (!decide ((e0:Int)=(a0:Int))) (J46 true s9) (bc (!decide ((f1:Int)=(a0:Int))) (J46 true s9) (bc (!decide ((m1:Int)=(a0:Int))) (J46 true s9) (aC 40 #[aD b2,aD 0,aD 10000] s9 (aI fun t50 s49=>(J46 (!t50) s49)))))))))))))))))
def AD:OA:=⟨[],false,[]⟩
def R4:MAn:=(aQ (aQ (.seq (aQ (.cond (aQ .leaf) .leaf)) (aQ (.seq (aQ (.cond (aQ .leaf) .leaf)) (aQ (.seq (aQ (.cond (aQ .leaf) .leaf)) (aQ (.cut ⟨[true],1,[.slot 1 (.hb 0 0)],[(4,true)]⟩ (.cut ⟨[true],1,[.slot 1 (.hb 0 0),.slot 66 (.sc (.bool))],[(4,true)]⟩ (.txt [AD,AD,AD,AD,AD,AD,⟨[],true,[]⟩,AD,AD,AD,AD,AD,AD,AD,⟨[],true,[]⟩,AD,AD,AD,AD,AD,AD,⟨[],true,[]⟩,AD,AD,AD,AD,AD,AD,⟨[],true,[]⟩]) (.cond (aQ .leaf) .leaf)) (.cut ⟨[true],1,[],[]⟩ (aQ (.block (.loop ⟨[true],1,[.slot 1 (.hb 0 0),.slot 5 (.sc (.int .i64))],[(4,true)]⟩ (.seq (aQ (.cond .leaf .leaf)) (.cut ⟨[true],1,[.slot 1 (.hb 0 0)],[(4,true),(5,true)]⟩ (.block (.cut ⟨[true],1,[.slot 1 (.hb 0 0),.slot 87 (.sc (.bool))],[(4,true),(5,true)]⟩ (.txt [AD,AD,AD,AD,AD,AD,AD,⟨[],true,[]⟩]) (.cond (aQ .leaf) .leaf))) (.txt [])))))) (aQ .leaf)))))))))))
theorem RM (σ:Hp) (j0:aA) (a0 k0:Nat) (t0:Int) (q0:aA) (p0 v0:Nat) (n0:aA) (m0 u0:Nat) (i0:aA) (f0 r0:Nat) (x0:aA) (y0 a1:Nat) (b2:Int) (c0:aA) (b0 d0:Nat) (g0:aA) (e0 h0:Nat) (o0 s0 l0:Int) (i1:aA) (f1 l1:Nat) (q1:aA) (m1 s1:Nat) (R:aB) (h:Jd σ j0 a0 k0 t0 q0 p0 v0 n0 m0 u0 i0 f0 r0 x0 y0 a1 b2 c0 b0 d0 g0 e0 h0 o0 s0 l0 i1 f1 l1 q1 m1 s1 R):Af prog 39 #[(.agg #[aN j0 a0 k0,aD t0,aN q0 p0 v0,aN n0 m0 u0,aN i0 f0 r0,aN x0 y0 a1,aD b2,aN c0 b0 d0,aN g0 e0 h0,aD o0,aD s0,aD l0,aN i1 f1 l1,aN q1 m1 s1])] σ R:=
 Ae F8 R4 Tryz.func39 rfl (h:=h)
def KD (σ:Hp) (_:aA) (a0 _:Nat) (_:Int) (q0:aA) (p0 v0:Nat) (n0:aA) (m0 u0:Nat) (i0:aA) (f0 r0:Nat) (x0:aA) (y0 a1:Nat) (b2:Int) (c0:aA) (b0 d0:Nat) (g0:aA) (e0 h0:Nat) (o0 s0 l0:Int) (_:aA) (_ _:Nat) (_:aA) (_ _:Nat) (R:aB):Prop:=
 (0<=(a0:Int)/\(a0:Int)<=(a0:Int) /\
  (a0:Int)<=(1000000000:Int)/\aC 80 #[(.agg #[aN q0 p0 v0,aN n0 m0 u0,aN i0 f0 r0]),aN x0 y0 a1,aD b2] σ (fun v1 σ2=>
  ∃ A3:aA,∃ l3 c3:Nat,∃ n4:Int,(v1=(.tuple #[aN A3 l3 c3,aD n4]) /\
  cut (α:=List Bool->Hp->Prop) (fun xs8 s6=>∀ _:Nat->Value,exl 4 [.bool] xs8 s6 (fun A9 l9 c9 s10=>
  rt s10 R (aN A9 l9 c9))) (fun J7=>∃ I13:Nat->Int->Int->List Bool->Hp->Prop,(∃ n140,I13 n140 0 0 (List.replicate ((a0:Int):Int).toNat false:List Bool) σ2) /\
  ∀ n14 n15 n16 xs17 s12,I13 n14 n15 n16 xs17 s12->∀ _:Nat->Value,bc (decide (n16<(l3:Int))) (cut (α:=Int->List Bool->Hp->Prop) (fun n21 xs22 s19=>
  ∀ _:Nat->Value,wk .i64 (n16+1) (fun n23=>bk s19 n14 (fun m24 s25=>I13 m24 n21 n23 xs22 s25))) (fun J20=>
  ix A3 l3 n16 1 (fun b26 a27=>ldI s12 .i64 b26 a27 (fun n28=>wk .u64 (n28) (fun n29=>(0<=n29 /\
  wk .i64 (1*2^(min (n29:Int).toNat (IntKind.bits .i64))) (fun n30=>wk .i64 (((BitVec.ofInt (IntKind.bits .i64) n15 ||| BitVec.ofInt (IntKind.bits .i64) n30).toNat:Int)) (fun n31=>
  aC 81 #[(.agg #[aN c0 b0 d0,aN g0 e0 h0,aD o0,aD s0,aD l0]),aD n31] s12 (fun v32 s33=>
  ∃ n34:Int,∃ t35:Bool,∃ n36:Int,(v32=(.tuple #[aD n34,.bool t35,aD n36]) /\
  bc t35 (wk .u64 (n28) (fun n37=>(0<=n37/\wk .i64 (1*2^(min (n37:Int).toNat (IntKind.bits .i64))) (fun n38=>
  wk .i64 (((BitVec.ofInt (IntKind.bits .i64) n15 ||| BitVec.ofInt (IntKind.bits .i64) n38).toNat:Int)) (fun n39=>
  (0<=n28/\n28<((List.length xs17:Nat):Int)/\lat xs17 ((n28:Int).toNat) (fun _=>J20 n39 (List.set xs17 ((n28:Int).toNat) true) s33))))))) (J20 n15 xs17 s33))))))))))) (J7 xs17 s12)))))
def Tt:MAn:=(aQ (aQ (aQ (aQ (.cut ⟨[true,false],2,[.slot 3 (.hl 1 0),.modl 1 0 4 [.bool]],[]⟩ (aQ (.block (.loop ⟨[true,false],2,[.slot 1 (.hb 0 0),.slot 3 (.hl 1 0),.slot 6 (.sc (.int .i64)),.slot 7 (.sc (.int .i64)),.modl 1 0 4 [.bool]],[(4,true)]⟩ (.seq (aQ (.cond .leaf .leaf)) (.cut ⟨[true,false],2,[.slot 1 (.hb 0 0),.slot 3 (.hl 1 0),.slot 6 (.sc (.int .i64)),.modl 1 0 4 [.bool]],[(4,true),(7,true)]⟩ (.block (aQ (aQ (aQ (.cond (aQ (.txt [])) .leaf))))) (.txt [])))))) (aQ .leaf))))))
theorem TF (σ:Hp) (j0:aA) (a0 k0:Nat) (t0:Int) (q0:aA) (p0 v0:Nat) (n0:aA) (m0 u0:Nat) (i0:aA) (f0 r0:Nat) (x0:aA) (y0 a1:Nat) (b2:Int) (c0:aA) (b0 d0:Nat) (g0:aA) (e0 h0:Nat) (o0 s0 l0:Int) (i1:aA) (f1 l1:Nat) (q1:aA) (m1 s1:Nat) (R:aB) (h:KD σ j0 a0 k0 t0 q0 p0 v0 n0 m0 u0 i0 f0 r0 x0 y0 a1 b2 c0 b0 d0 g0 e0 h0 o0 s0 l0 i1 f1 l1 q1 m1 s1 R):Af prog 41 #[(.agg #[aN j0 a0 k0,aD t0,aN q0 p0 v0,aN n0 m0 u0,aN i0 f0 r0,aN x0 y0 a1,aD b2,aN c0 b0 d0,aN g0 e0 h0,aD o0,aD s0,aD l0,aN i1 f1 l1,aN q1 m1 s1])] σ R:=
 Ae F8 Tt Tryz.func41 rfl (h:=h)
def DL (σ:Hp) (j0:aA) (a0 k0:Nat) (t0:Int) (q0:aA) (p0 v0:Nat) (n0:aA) (m0 u0:Nat) (i0:aA) (f0 r0:Nat) (x0:aA) (y0 a1:Nat) (b2:Int) (c0:aA) (b0 d0:Nat) (g0:aA) (e0 h0:Nat) (o0 s0 l0:Int) (i1:aA) (f1 l1:Nat) (q1:aA) (m1 s1:Nat) (l_A:aA) (l_n l_c:Nat) (R:aB):Prop:=
 aC 39 #[(.agg #[aN j0 a0 k0,aD t0,aN q0 p0 v0,aN n0 m0 u0,aN i0 f0 r0,aN x0 y0 a1,aD b2,aN c0 b0 d0,aN g0 e0 h0,aD o0,aD s0,aD l0,aN i1 f1 l1,aN q1 m1 s1])] σ (aJ fun n3 σ2=>(bc (!decide (n3=0)) (rt σ2 R (aD n3)) (aC 77 #[(.agg #[aN j0 a0 k0,aD t0]),aN l_A l_n l_c] σ2 (aJ fun n6 s5=>(rt s5 R (aD n6))))))
def KT:MAn:=(aQ (aQ (.seq (aQ (.cond (aQ .leaf) .leaf)) (aQ .leaf))))
theorem La (σ:Hp) (j0:aA) (a0 k0:Nat) (t0:Int) (q0:aA) (p0 v0:Nat) (n0:aA) (m0 u0:Nat) (i0:aA) (f0 r0:Nat) (x0:aA) (y0 a1:Nat) (b2:Int) (c0:aA) (b0 d0:Nat) (g0:aA) (e0 h0:Nat) (o0 s0 l0:Int) (i1:aA) (f1 l1:Nat) (q1:aA) (m1 s1:Nat) (l_A:aA) (l_n l_c:Nat) (R:aB) (h:DL σ j0 a0 k0 t0 q0 p0 v0 n0 m0 u0 i0 f0 r0 x0 y0 a1 b2 c0 b0 d0 g0 e0 h0 o0 s0 l0 i1 f1 l1 q1 m1 s1 l_A l_n l_c R):Af prog 52 #[(.agg #[aN j0 a0 k0,aD t0,aN q0 p0 v0,aN n0 m0 u0,aN i0 f0 r0,aN x0 y0 a1,aD b2,aN c0 b0 d0,aN g0 e0 h0,aD o0,aD s0,aD l0,aN i1 f1 l1,aN q1 m1 s1]),aN l_A l_n l_c] σ R:=
 Ae F8 KT Tryz.func52 rfl (h:=h)
def K2 (σ:Hp) (j0:aA) (a0 k0:Nat) (t0:Int) (q0:aA) (p0 v0:Nat) (n0:aA) (m0 u0:Nat) (i0:aA) (f0 r0:Nat) (x0:aA) (y0 a1:Nat) (b2:Int) (c0:aA) (b0 d0:Nat) (g0:aA) (e0 h0:Nat) (o0 s0 l0:Int) (i1:aA) (f1 l1:Nat) (q1:aA) (m1 s1:Nat) (l_A:aA) (l_n l_c:Nat) (R:aB):Prop:=
 aC 41 #[(.agg #[aN j0 a0 k0,aD t0,aN q0 p0 v0,aN n0 m0 u0,aN i0 f0 r0,aN x0 y0 a1,aD b2,aN c0 b0 d0,aN g0 e0 h0,aD o0,aD s0,aD l0,aN i1 f1 l1,aN q1 m1 s1])] σ (aK fun A3 l3 _ σ2=>(aC 51 #[aN l_A l_n l_c] σ2 (aK fun A6 l6 c6 s5=>(cut (α:=List ((aA×Nat×Nat))->Hp->Prop) (fun xs10 s8=>
  ∀ _:Nat->Value,exl 26 [.slc] xs10 s8 (fun A11 l11 c11 s12=>rt s12 R (.tuple #[aN A6 l6 c6,aN A11 l11 c11]))) (fun J9=>
  ∃ I15:Nat->List ((aA×Nat×Nat))->Int->Hp->Prop,(∃ n160,adp 26 [.slc] none 0 0 s5 (fun (xs17:List ((aA×Nat×Nat))) s18=>
  I15 n160 xs17 0 s18))/\∀ n16 xs19 n20 s14,I15 n16 xs19 n20 s14->∀ _:Nat->Value,bc (decide (n20<(l6:Int))) (cut (α:=List ((aA×Nat×Nat))->Hp->Prop) (fun xs24 s22=>
  ∀ _:Nat->Value,wk .i64 (n20+1) (fun n25=>bk s22 n16 (fun m26 s27=>I15 m26 xs24 n25 s27))) (fun J23=>
  cut (α:=aA->Nat->Nat->aA->Nat->Nat->Hp->Prop) (fun A31 l31 c31 A32 l32 c32 s29=>
  ∀ _:Nat->Value,ix A6 l6 n20 5 (fun b33 a34=>st s29 b33 (a34+3) (aN A31 l31 c31) (fun s35=>
  Bi (List.length xs19+List.length ([(A32,l32,c32)]:List ((aA×Nat×Nat)))) (J23 (xs19++([(A32,l32,c32)]:List ((aA×Nat×Nat)))) s35)))) (fun J30=>
  ∃ I38:Nat->aA->Nat->Nat->aA->Nat->Nat->Int->Hp->Prop,(∃ n390,I38 n390 none 0 0 none 0 0 0 s14) /\
  ∀ n39 A40 l40 c40 A41 l41 c41 n42 s37,I38 n39 A40 l40 c40 A41 l41 c41 n42 s37->∀ _:Nat->Value,ix l_A l_n n20 5 (fun b43 a44=>
  ldS s37 b43 (a44+3) (fun _ l45 _=>bc (decide (n42<(l45:Int))) (cut (α:=aA->Nat->Nat->aA->Nat->Nat->Hp->Prop) (fun A49 l49 c49 A50 l50 c50 s47=>
  ∀ _:Nat->Value,wk .i64 (n42+1) (fun n51=>bk s47 n39 (fun m52 s53=>I38 m52 A49 l49 c49 A50 l50 c50 n51 s53))) (fun J48=>
  ix l_A l_n n20 5 (fun b54 a55=>ldS s37 b54 (a55+3) (fun A56 l56 _=>ix A56 l56 n42 1 (fun b57 a58=>
  ldI s37 .i64 b57 a58 (fun n59=>ix A3 l3 n59 1 (fun b60 a61=>ldB s37 b60 a61 (fun t62=>bc t62 (ix l_A l_n n20 5 (fun b63 a64=>
  ldS s37 b63 (a64+3) (fun A65 l65 _=>ix A65 l65 n42 1 (fun b66 a67=>ldI s37 .i64 b66 a67 (fun n68=>
  adp 3 aM A40 l40 c40 s37 (fun (xs69:List Int) s70=>Bi (List.length xs69+List.length ([n68]:List Int)) (adp 3 aM A41 l41 c41 s70 (fun (xs71:List Int) s72=>
  Bi (List.length xs71+List.length ([n42]:List Int)) (exl 3 aM (xs69++([n68]:List Int)) s72 (fun A73 l73 c73 s74=>
  exl 3 aM (xs71++([n42]:List Int)) s74 (fun A75 l75 c75 s76=>J48 A73 l73 c73 A75 l75 c75 s76))))))))))) (J48 A40 l40 c40 A41 l41 c41 s37))))))))) (J30 A40 l40 c40 A41 l41 c41 s37)))))) (J9 xs19 s14))))))
def Tk:MAn:=(aQ (aQ (aQ (aQ (.cut ⟨[true],2,[.slot 8 (.lst 1 26 [.slc])],[(7,true)]⟩ (aQ (.block (.loop ⟨[true],2,[.slot 8 (.lst 1 26 [.slc]),.slot 9 (.sc (.int .i64))],[(1,true),(6,true),(7,true)]⟩ (.seq (aQ (.cond .leaf .leaf)) (.cut ⟨[true,false],2,[.slot 8 (.lst 1 26 [.slc])],[(1,true),(6,true),(7,true),(9,true)]⟩ (.block (aQ (.cut ⟨[true,true],2,[.slot 8 (.hl 1 0),.slot 10 (.sc (.slc)),.slot 11 (.sc (.slc))],[(1,true),(6,true),(7,true),(9,true)]⟩ (aQ (.block (.loop ⟨[true,true],2,[.slot 8 (.hl 1 0),.slot 10 (.sc (.slc)),.slot 11 (.sc (.slc)),.slot 12 (.sc (.int .i64))],[(1,true),(6,true),(7,true),(9,true)]⟩ (.seq (aQ (.cond .leaf .leaf)) (.cut ⟨[true,true],2,[.slot 8 (.hl 1 0),.slot 10 (.sc (.slc)),.slot 11 (.sc (.slc))],[(1,true),(6,true),(7,true),(9,true),(12,true)]⟩ (.block (aQ (.cond (aQ (.txt [])) .leaf))) (.txt [])))))) (aQ (.txt []))))) (.txt [])))))) (aQ .leaf))))))
theorem Tb (σ:Hp) (j0:aA) (a0 k0:Nat) (t0:Int) (q0:aA) (p0 v0:Nat) (n0:aA) (m0 u0:Nat) (i0:aA) (f0 r0:Nat) (x0:aA) (y0 a1:Nat) (b2:Int) (c0:aA) (b0 d0:Nat) (g0:aA) (e0 h0:Nat) (o0 s0 l0:Int) (i1:aA) (f1 l1:Nat) (q1:aA) (m1 s1:Nat) (l_A:aA) (l_n l_c:Nat) (R:aB) (h:K2 σ j0 a0 k0 t0 q0 p0 v0 n0 m0 u0 i0 f0 r0 x0 y0 a1 b2 c0 b0 d0 g0 e0 h0 o0 s0 l0 i1 f1 l1 q1 m1 s1 l_A l_n l_c R):Af prog 57 #[(.agg #[aN j0 a0 k0,aD t0,aN q0 p0 v0,aN n0 m0 u0,aN i0 f0 r0,aN x0 y0 a1,aD b2,aN c0 b0 d0,aN g0 e0 h0,aD o0,aD s0,aD l0,aN i1 f1 l1,aN q1 m1 s1]),aN l_A l_n l_c] σ R:=
 Ae F8 Tk Tryz.func57 rfl (h:=h)
def IW (σ:Hp) (j0:aA) (a0 k0:Nat) (t0:Int) (q0:aA) (p0 v0:Nat) (n0:aA) (m0 u0:Nat) (i0:aA) (f0 r0:Nat) (x0:aA) (y0 a1:Nat) (b2:Int) (c0:aA) (b0 d0:Nat) (g0:aA) (e0 h0:Nat) (o0 s0 l0:Int) (i1:aA) (f1 l1:Nat) (q1:aA) (m1 s1:Nat) (l_A:aA) (l_n l_c:Nat) (R:aB):Prop:=
 aC 57 #[(.agg #[aN j0 a0 k0,aD t0,aN q0 p0 v0,aN n0 m0 u0,aN i0 f0 r0,aN x0 y0 a1,aD b2,aN c0 b0 d0,aN g0 e0 h0,aD o0,aD s0,aD l0,aN i1 f1 l1,aN q1 m1 s1]),aN l_A l_n l_c] σ (fun v1 σ2=>
  ∃ A3:aA,∃ l3 c3:Nat,∃ A4:aA,∃ l4 c4:Nat,(v1=(.tuple #[aN A3 l3 c3,aN A4 l4 c4]) /\
  aC 96 #[(.agg #[aN j0 a0 k0,aD t0]),aN A3 l3 c3] σ2 (fun v5 s6=>
  ∃ A7:aA,∃ l7 c7:Nat,∃ n8:Int,(v5=(.tuple #[aN A7 l7 c7,aD n8]) /\
  rt s6 R (aN A7 l7 c7)))))
def RQ:MAn:=(aQ (aQ (aQ (aQ .leaf))))
theorem Sg (σ:Hp) (j0:aA) (a0 k0:Nat) (t0:Int) (q0:aA) (p0 v0:Nat) (n0:aA) (m0 u0:Nat) (i0:aA) (f0 r0:Nat) (x0:aA) (y0 a1:Nat) (b2:Int) (c0:aA) (b0 d0:Nat) (g0:aA) (e0 h0:Nat) (o0 s0 l0:Int) (i1:aA) (f1 l1:Nat) (q1:aA) (m1 s1:Nat) (l_A:aA) (l_n l_c:Nat) (R:aB) (h:IW σ j0 a0 k0 t0 q0 p0 v0 n0 m0 u0 i0 f0 r0 x0 y0 a1 b2 c0 b0 d0 g0 e0 h0 o0 s0 l0 i1 f1 l1 q1 m1 s1 l_A l_n l_c R):Af prog 53 #[(.agg #[aN j0 a0 k0,aD t0,aN q0 p0 v0,aN n0 m0 u0,aN i0 f0 r0,aN x0 y0 a1,aD b2,aN c0 b0 d0,aN g0 e0 h0,aD o0,aD s0,aD l0,aN i1 f1 l1,aN q1 m1 s1]),aN l_A l_n l_c] σ R:=
 Ae F8 RQ Tryz.func53 rfl (h:=h)
def Jc (σ:Hp) (j0:aA) (a0 k0:Nat) (t0:Int) (q0:aA) (p0 v0:Nat) (n0:aA) (m0 u0:Nat) (i0:aA) (f0 r0:Nat) (x0:aA) (y0 a1:Nat) (b2:Int) (c0:aA) (b0 d0:Nat) (g0:aA) (e0 h0:Nat) (o0 s0 l0:Int) (i1:aA) (f1 l1:Nat) (q1:aA) (m1 s1:Nat) (l_A:aA) (l_n l_c:Nat) (most:Int) (R:aB):Prop:=
 aC 52 #[(.agg #[aN j0 a0 k0,aD t0,aN q0 p0 v0,aN n0 m0 u0,aN i0 f0 r0,aN x0 y0 a1,aD b2,aN c0 b0 d0,aN g0 e0 h0,aD o0,aD s0,aD l0,aN i1 f1 l1,aN q1 m1 s1]),aN l_A l_n l_c] σ (aJ fun n3 σ2=>(bc (!decide (n3=0)) (rt σ2 R (.tuple #[aN none 0 0,aD n3])) (aC 40 #[aD most,aD 0,aD 10000] σ2 (aI fun t6 s5=>(bc (!t6) (rt s5 R (.tuple #[aN none 0 0,aD 1])) (cut (α:=List Int->Hp->Prop) (fun xs10 s8=>
  ∀ _:Nat->Value,(0<=(l_n:Int)/\(l_n:Int)<=(l_n:Int)/\(l_n:Int)<=(1000000000:Int) /\
  cut (α:=List Bool->Hp->Prop) (fun xs14 s12=>∀ _:Nat->Value,cut (α:=aA->Nat->Nat->Hp->Prop) (fun A18 l18 c18 s16=>
  ∀ _:Nat->Value,rt s16 R (.tuple #[aN A18 l18 c18,aD 0])) (fun J17=>∃ I21:Nat->aA->Nat->Nat->Int->Hp->Prop,(∃ n220,I21 n220 none 0 0 0 s12) /\
  ∀ n22 A23 l23 c23 n24 s20,I21 n22 A23 l23 c23 n24 s20->∀ _:Nat->Value,bc (decide (n24<((List.length xs14:Nat):Int))) (cut (α:=aA->Nat->Nat->Hp->Prop) (fun A28 l28 c28 s26=>
  ∀ _:Nat->Value,wk .i64 (n24+1) (fun n29=>bk s26 n22 (fun m30 s31=>I21 m30 A28 l28 c28 n29 s31))) (fun J27=>
  (0<=n24/\n24<((List.length xs14:Nat):Int)/\lat xs14 ((n24:Int).toNat) (fun r32=>bc r32 (adp 3 aM A23 l23 c23 s20 (fun (xs33:List Int) s34=>
  Bi (List.length xs33+List.length ([n24]:List Int)) (exl 3 aM (xs33++([n24]:List Int)) s34 (fun A35 l35 c35 s36=>
  J27 A35 l35 c35 s36)))) (J27 A23 l23 c23 s20))))) (J17 A23 l23 c23 s20))) (fun J13=>∃ I39:Nat->Int->List Bool->Hp->Prop,(∃ n400,I39 n400 0 (List.replicate ((l_n:Int):Int).toNat false:List Bool) s8) /\
  ∀ n40 n41 xs42 s38,I39 n40 n41 xs42 s38->∀ _:Nat->Value,bc (decide (n41<((List.length xs10:Nat):Int))) (cut (α:=List Bool->Hp->Prop) (fun xs46 s44=>
  ∀ _:Nat->Value,wk .i64 (n41+1) (fun n47=>bk s44 n40 (fun m48 s49=>I39 m48 n47 xs46 s49))) (fun J45=>
  (0<=n41/\n41<((List.length xs10:Nat):Int)/\lat xs10 ((n41:Int).toNat) (fun r50=>ix l_A l_n r50 5 (fun b51 a52=>
  ldI s38 .i64 b51 a52 (fun n53=>ldI s38 .i64 b51 (a52+1) (fun n54=>ldI s38 .i64 b51 (a52+2) (fun _=>
  ldS s38 b51 (a52+3) (fun _ _ _=>ldI s38 .i64 b51 (a52+4) (fun _=>cut (α:=aA->Nat->Nat->Hp->Prop) (fun A61 l61 c61 s59=>
  ∀ _:Nat->Value,aC 53 #[(.agg #[aN j0 a0 k0,aD t0,aN q0 p0 v0,aN n0 m0 u0,aN i0 f0 r0,aN x0 y0 a1,aD b2,aN c0 b0 d0,aN g0 e0 h0,aD o0,aD s0,aD l0,aN i1 f1 l1,aN q1 m1 s1]),aN A61 l61 c61] s59 (aK fun A64 l64 _ s63=>(aH (fun n68 s66=>(0<=n41/\n41<((List.length xs10:Nat):Int)/\lat xs10 ((n41:Int).toNat) (fun r69=>
  (0<=r69/\r69<((List.length xs42:Nat):Int)/\lat xs42 ((r69:Int).toNat) (fun _=>J45 (List.set xs42 ((r69:Int).toNat) (decide (n68<=most))) s66))))) (fun J67=>
  ∃ I73:Nat->Int->Int->Hp->Prop,(∃ n740,I73 n740 n54 0 s63)/\∀ n74 n75 n76 s72,I73 n74 n75 n76 s72->∀ _:Nat->Value,bc (decide (n76<(l61:Int))) (aH (fun n80 s78=>wk .i64 (n76+1) (fun n81=>bk s78 n74 (fun m82 s83=>I73 m82 n80 n81 s83))) (fun J79=>
  aG (fun t87 s85=>bc t87 (ix A61 l61 n76 5 (fun b88 a89=>
  ldI s85 .i64 b88 (a89+1) (fun n90=>wk .i64 (n75+n90) (fun n91=>J79 n91 s85)))) (J79 n75 s85)) (fun J86=>
  ix A64 l64 n76 1 (fun b92 a93=>ldI s72 .i64 b92 a93 (fun n94=>bc (decide (n94<0)) (J86 true s72) (ix A64 l64 n76 1 (fun b95 a96=>
  ldI s72 .i64 b95 a96 (fun n97=>J86 (decide (n53<=n97)) s72)))))))) (J67 n75 s72))))) (fun J60=>∃ I100:Nat->aA->Nat->Nat->Int->Hp->Prop,(∃ n1010,I100 n1010 none 0 0 0 s38) /\
  ∀ n101 A102 l102 c102 n103 s99,I100 n101 A102 l102 c102 n103 s99->∀ _:Nat->Value,bc (decide (n103<(l_n:Int))) (cut (α:=aA->Nat->Nat->Hp->Prop) (fun A107 l107 c107 s105=>
  ∀ _:Nat->Value,wk .i64 (n103+1) (fun n108=>bk s105 n101 (fun m109 s110=>I100 m109 A107 l107 c107 n108 s110))) (fun J106=>
  (0<=n103/\n103<((List.length xs42:Nat):Int)/\lat xs42 ((n103:Int).toNat) (fun r111=>bc r111 (ix l_A l_n n103 5 (fun b112 a113=>
  ldI s99 .i64 b112 a113 (fun n114=>ldI s99 .i64 b112 (a113+1) (fun n115=>ldI s99 .i64 b112 (a113+2) (fun n116=>
  ldS s99 b112 (a113+3) (fun A117 l117 c117=>ldI s99 .i64 b112 (a113+4) (fun n118=>adp 65 [.int .i64,.int .i64,.int .i64,.slc,.int .i64] A102 l102 c102 s99 (fun (xs119:List (Int×Int×Int×(aA×Nat×Nat)×Int)) s120=>
  Bi (List.length xs119+List.length ([(n114,n115,n116,(A117,l117,c117),n118)]:List (Int×Int×Int×(aA×Nat×Nat)×Int))) (exl 65 [.int .i64,.int .i64,.int .i64,.slc,.int .i64] (xs119++([(n114,n115,n116,(A117,l117,c117),n118)]:List (Int×Int×Int×(aA×Nat×Nat)×Int))) s120 (fun A121 l121 c121 s122=>
  J106 A121 l121 c121 s122)))))))))) (J106 A102 l102 c102 s99))))) (J60 A102 l102 c102 s99)))))))))))) (J13 xs42 s38)))) (fun J9=>
  ∃ I125:Nat->List Int->Int->Hp->Prop,(∃ n1260,adp 3 aM none 0 0 s5 (fun (xs127:List Int) s128=>
  I125 n1260 xs127 0 s128))/\∀ n126 xs129 n130 s124,I125 n126 xs129 n130 s124->∀ _:Nat->Value,bc (decide (n130<(l_n:Int))) (cut (α:=List Int->Hp->Prop) (fun xs134 s132=>
  ∀ _:Nat->Value,wk .i64 (n130+1) (fun n135=>bk s132 n126 (fun m136 s137=>I125 m136 xs134 n135 s137))) (fun J133=>
  Bi (List.length xs129+List.length ([n130]:List Int)) (∃ I140:Nat->Int->List Int->Hp->Prop,(∃ n1410,I140 n1410 n130 (xs129++([n130]:List Int)) s124) /\
  ∀ n141 n142 xs143 s139,I140 n141 n142 xs143 s139->∀ _:Nat->Value,aF (fun s145=>wk .i64 (n142-1) (fun n147=>wk .i64 (n142-1) (fun n148=>(0<=n148/\n148<((List.length xs143:Nat):Int) /\
  lat xs143 ((n148:Int).toNat) (fun r149=>(0<=n142/\n142<((List.length xs143:Nat):Int)/\lat xs143 ((n142:Int).toNat) (fun r150=>
  (0<=n142/\n142<((List.length xs143:Nat):Int)/\lat xs143 ((n142:Int).toNat) (fun _=>(0<=n147 /\
  n147<((List.length (List.set xs143 ((n142:Int).toNat) r149):Nat):Int)/\lat (List.set xs143 ((n142:Int).toNat) r149) ((n147:Int).toNat) (fun _=>
  wk .i64 (n142-1) (fun n153=>bk s145 n141 (fun m154 s155=>I140 m154 n153 (List.set (List.set xs143 ((n142:Int).toNat) r149) ((n147:Int).toNat) r150) s155))))))))))))) (fun J146=>
  aG (fun t159 s157=>bc t159 (J146 s157) (J133 xs143 s157)) (fun J158=>
  bc (decide ((0:Int)<n142)) ((0<=n142/\n142<((List.length xs143:Nat):Int)/\lat xs143 ((n142:Int).toNat) (fun r160=>
  ix l_A l_n r160 5 (fun b161 a162=>ldI s139 .i64 b161 a162 (fun n163=>wk .i64 (n142-1) (fun n164=>
  (0<=n164/\n164<((List.length xs143:Nat):Int)/\lat xs143 ((n164:Int).toNat) (fun r165=>ix l_A l_n r165 5 (fun b166 a167=>
  ldI s139 .i64 b166 a167 (fun n168=>J158 (decide (n163<n168)) s139)))))))))) (J158 false s139)))))) (J9 xs129 s124))))))))
def Ao:OA:=⟨[],false,[]⟩
def RL:MAn:=(aQ (aQ (.seq (aQ (.cond (aQ .leaf) .leaf)) (.seq (aQ (.cond (aQ .leaf) .leaf)) (aQ (.cut ⟨[true],2,[.slot 3 (.hb 0 0),.slot 9 (.lst 1 3 aM)],[(1,true),(2,true)]⟩ (aQ (.block (.loop ⟨[true],2,[.slot 3 (.hb 0 0),.slot 9 (.lst 1 3 aM),.slot 10 (.sc (.int .i64))],[(1,true),(2,true)]⟩ (.seq (aQ (.cond .leaf .leaf)) (.cut ⟨[true,false],2,[.slot 3 (.hb 0 0),.slot 9 (.lst 1 3 aM)],[(1,true),(2,true),(10,true)]⟩ (.block (aQ (aQ (.block (.loop ⟨[true,false,true],3,[.slot 3 (.hb 0 0),.slot 9 (.hl 1 1),.slot 11 (.sc (.int .i64)),.modl 1 1 3 aM],[(1,true),(2,true),(10,true)]⟩ (.cut ⟨[true,true,true],3,[.slot 3 (.hb 0 0),.slot 9 (.hl 1 1)],[(1,true),(2,true),(10,true),(11,true)]⟩ (.cut ⟨[true,true,true],3,[.slot 3 (.hb 0 0),.slot 9 (.hl 1 1),.slot 63 (.sc (.bool))],[(1,true),(2,true),(10,true),(11,true)]⟩ (.plan [] (.take 0 Ao (.take 1 Ao (.take 2 ⟨[],true,[]⟩ (tkVR4 19 3 Ao .done))))) (.cond .leaf .leaf)) (.seq (.block (.plan [15,17] (tkVR4 15 0 Ao (.alt 15 false Ao (.take 16 Ao (.alt 17 false Ao .done .done)) .done)))) (.txt [])))))))) (.txt [])))))) (aQ (.cut ⟨[true,true,false],3,[.slot 12 (.hl 2 0),.modl 2 0 4 [.bool]],[]⟩ (aQ (.block (.loop ⟨[true,true,false],3,[.slot 3 (.hb 0 0),.slot 9 (.hl 1 0),.slot 12 (.hl 2 0),.slot 13 (.sc (.int .i64)),.modl 2 0 4 [.bool]],[(1,true),(2,true)]⟩ (.seq (aQ (.cond .leaf .leaf)) (.cut ⟨[true,true,false],3,[.slot 3 (.hb 0 0),.slot 9 (.hl 1 0),.slot 12 (.hl 2 0),.modl 2 0 4 [.bool]],[(1,true),(2,true),(13,true)]⟩ (.block (aQ (aQ (.cut ⟨[true,true,true,true],4,[.slot 3 (.hb 0 0),.slot 9 (.hl 1 0),.slot 12 (.hl 2 0),.slot 14 (.hb 3 0),.slot 15 (.sc (.slc))],[(1,true),(2,true),(13,true)]⟩ (aQ (.block (.loop ⟨[true,true,true,true],4,[.slot 3 (.hb 0 0),.slot 9 (.hl 1 0),.slot 12 (.hl 2 0),.slot 14 (.hb 3 0),.slot 15 (.sc (.slc)),.slot 16 (.sc (.int .i64))],[(1,true),(2,true),(13,true)]⟩ (.seq (aQ (.cond .leaf .leaf)) (.cut ⟨[true,true,true,true],4,[.slot 3 (.hb 0 0),.slot 9 (.hl 1 0),.slot 12 (.hl 2 0),.slot 14 (.hb 3 0),.slot 15 (.sc (.slc))],[(1,true),(2,true),(13,true),(16,true)]⟩ (.block (aQ (.cond (.txt []) .leaf))) (.txt [])))))) (aQ (aQ (.cut ⟨[true,true,true,true],4,[.slot 3 (.hb 0 0),.slot 9 (.hl 1 0),.slot 12 (.hl 2 0),.slot 18 (.sc (.int .i64))],[(1,true),(2,true),(13,true)]⟩ (aQ (.block (.loop ⟨[true,true,true,true],4,[.slot 3 (.hb 0 0),.slot 9 (.hl 1 0),.slot 12 (.hl 2 0),.slot 14 (.hb 3 0),.slot 18 (.sc (.int .i64)),.slot 19 (.sc (.int .i64))],[(1,true),(2,true),(13,true),(15,true),(17,true)]⟩ (.seq (aQ (.cond .leaf .leaf)) (.cut ⟨[true,true,true,true],4,[.slot 3 (.hb 0 0),.slot 9 (.hl 1 0),.slot 12 (.hl 2 0),.slot 14 (.hb 3 0),.slot 18 (.sc (.int .i64))],[(1,true),(2,true),(13,true),(15,true),(17,true),(19,true)]⟩ (.block (.cut ⟨[true,true,true,true],4,[.slot 3 (.hb 0 0),.slot 9 (.hl 1 0),.slot 12 (.hl 2 0),.slot 14 (.hb 3 0),.slot 139 (.sc (.bool))],[(1,true),(2,true),(13,true),(15,true),(17,true),(18,true),(19,true)]⟩ (.plan [] (tkVR4 5 0 Ao (.take 5 ⟨[],true,[]⟩ (tkVR4 8 6 Ao .done)))) (.cond (.txt []) .leaf))) (.txt [])))))) (.txt [])))))))) (.txt [])))))) (aQ (.cut ⟨[true,true,true],3,[.slot 20 (.sc (.slc))],[]⟩ (aQ (.block (.loop ⟨[true,true,true],3,[.slot 12 (.hl 2 0),.slot 20 (.sc (.slc)),.slot 21 (.sc (.int .i64))],[]⟩ (.seq (aQ (.cond .leaf .leaf)) (.cut ⟨[true,true,true],3,[.slot 12 (.hl 2 0),.slot 20 (.sc (.slc))],[(21,true)]⟩ (.block (aQ (.cond (.txt []) .leaf))) (.txt [])))))) (aQ .leaf)))))))))))
theorem R1 (σ:Hp) (j0:aA) (a0 k0:Nat) (t0:Int) (q0:aA) (p0 v0:Nat) (n0:aA) (m0 u0:Nat) (i0:aA) (f0 r0:Nat) (x0:aA) (y0 a1:Nat) (b2:Int) (c0:aA) (b0 d0:Nat) (g0:aA) (e0 h0:Nat) (o0 s0 l0:Int) (i1:aA) (f1 l1:Nat) (q1:aA) (m1 s1:Nat) (l_A:aA) (l_n l_c:Nat) (most:Int) (R:aB) (h:Jc σ j0 a0 k0 t0 q0 p0 v0 n0 m0 u0 i0 f0 r0 x0 y0 a1 b2 c0 b0 d0 g0 e0 h0 o0 s0 l0 i1 f1 l1 q1 m1 s1 l_A l_n l_c most R):Af prog 21 #[(.agg #[aN j0 a0 k0,aD t0,aN q0 p0 v0,aN n0 m0 u0,aN i0 f0 r0,aN x0 y0 a1,aD b2,aN c0 b0 d0,aN g0 e0 h0,aD o0,aD s0,aD l0,aN i1 f1 l1,aN q1 m1 s1]),aN l_A l_n l_c,aD most] σ R:=
 Ae F8 RL Tryz.func21 rfl (h:=h)
def KQ (σ:Hp) (j0:aA) (a0 k0:Nat) (t0:Int) (q0:aA) (p0 _:Nat) (n0:aA) (m0 _:Nat) (i0:aA) (f0 _:Nat) (x0:aA) (y0 a1:Nat) (b2:Int) (c0:aA) (b0 d0:Nat) (g0:aA) (e0 h0:Nat) (o0 s0 l0:Int) (i1:aA) (f1 l1:Nat) (q1:aA) (m1 s1:Nat) (R:aB):Prop:=
 aC 38 #[(.agg #[aN j0 a0 k0,aD t0])] σ (fun v1 σ2=>
  ∃ A3:aA,∃ l3 c3:Nat,∃ n4:Int,(v1=(.agg #[aN A3 l3 c3,aD n4]) /\
  cut (α:=aA->Nat->Nat->Int->aA->Nat->Nat->aA->Nat->Nat->aA->Nat->Nat->aA->Nat->Nat->Int->aA->Nat->Nat->aA->Nat->Nat->Int->Int->Int->aA->Nat->Nat->aA->Nat->Nat->Hp->Prop) (fun A8 l8 c8 n9 A10 l10 c10 A11 l11 c11 A12 l12 c12 _ _ _ n14 _ _ _ _ _ _ n17 n18 n19 _ _ _ _ _ _ s6=>
  ∀ _:Nat->Value,∃ ys22:List (Int×Int×Int×Int×Int),RdS [.int .i64,.int .i64,.int .i64,.int .i64,.int .i64] s6 x0 y0 ys22 /\
  Bi (List.length ([]:List (Int×Int×Int×Int×Int))+List.length ys22) (∃ ys23:List (Int×Int×Int×Int),RdS [.int .i64,.int .i64,.int .i64,.int .i64] s6 c0 b0 ys23 /\
  Bi (List.length ([]:List (Int×Int×Int×Int))+List.length ys23) (∃ ys24:List (Int×Int×Int×Int),RdS [.int .i64,.int .i64,.int .i64,.int .i64] s6 g0 e0 ys24 /\
  Bi (List.length ([]:List (Int×Int×Int×Int))+List.length ys24) (∃ ys25:List Int,RdS aM s6 i1 f1 ys25 /\
  Bi (List.length ([]:List Int)+List.length ys25) (∃ ys26:List Int,RdS aM s6 q1 m1 ys26 /\
  Bi (List.length ([]:List Int)+List.length ys26) (exl 136 [.int .i64,.int .i64,.int .i64,.int .i64,.int .i64] (([]:List (Int×Int×Int×Int×Int))++ys22) s6 (fun A27 l27 c27 s28=>
  exl 138 [.int .i64,.int .i64,.int .i64,.int .i64] (([]:List (Int×Int×Int×Int))++ys23) s28 (fun A29 l29 c29 s30=>
  exl 140 [.int .i64,.int .i64,.int .i64,.int .i64] (([]:List (Int×Int×Int×Int))++ys24) s30 (fun A31 l31 c31 s32=>
  exl 3 aM (([]:List Int)++ys25) s32 (fun A33 l33 c33 s34=>exl 3 aM (([]:List Int)++ys26) s34 (fun A35 l35 c35 s36=>
  rt s36 R (.agg #[aN A8 l8 c8,aD n9,aN A10 l10 c10,aN A11 l11 c11,aN A12 l12 c12,aN A27 l27 c27,aD n14,aN A29 l29 c29,aN A31 l31 c31,aD n17,aD n18,aD n19,aN A33 l33 c33,aN A35 l35 c35])))))))))))) (fun J7=>
  ((∃ ys37:List (Int×Int×Int×Bool),RdS [.int .i64,.int .i64,.int .i64,.bool] σ2 q0 p0 ys37 /\
  Bi (List.length ([]:List (Int×Int×Int×Bool))+List.length ys37) (((∃ ys38:List Int,RdS aM σ2 n0 m0 ys38 /\
  Bi (List.length ([]:List Int)+List.length ys38) (∃ ys39:List Int,RdS aM σ2 i0 f0 ys39 /\
  Bi (List.length ([]:List Int)+List.length ys39) (exl 270 [.int .i64,.int .i64,.int .i64,.bool] (([]:List (Int×Int×Int×Bool))++ys37) σ2 (fun A40 l40 c40 s41=>
  exl 3 aM (([]:List Int)++ys38) s41 (fun A42 l42 c42 s43=>exl 3 aM (([]:List Int)++ys39) s43 (fun A44 l44 c44 s45=>
  J7 A3 l3 c3 n4 A40 l40 c40 A42 l42 c42 A44 l44 c44 x0 y0 a1 b2 c0 b0 d0 g0 e0 h0 o0 s0 l0 i1 f1 l1 q1 m1 s1 s45)))))) /\
  (∃ ys46:List Int,RdS aM σ2 n0 m0 ys46/\Bi (List.length ([]:List Int)+List.length ys46) (∃ ys47:List Int,RdS aM σ2 i0 f0 ys47 /\
  Bi (List.length ([]:List Int)+List.length ys47) (exl 270 [.int .i64,.int .i64,.int .i64,.bool] (([]:List (Int×Int×Int×Bool))++ys37) σ2 (fun A48 l48 c48 s49=>
  exl 3 aM (([]:List Int)++ys46) s49 (fun A50 l50 c50 s51=>exl 3 aM (([]:List Int)++ys47) s51 (fun A52 l52 c52 s53=>
  J7 A3 l3 c3 n4 A48 l48 c48 A50 l50 c50 A52 l52 c52 x0 y0 a1 b2 c0 b0 d0 g0 e0 h0 o0 s0 l0 i1 f1 l1 q1 m1 s1 s53))))))))) /\
  ((∃ ys54:List (Int×Int×Int×Bool),RdS [.int .i64,.int .i64,.int .i64,.bool] σ2 q0 p0 ys54 /\
  Bi (List.length ([]:List (Int×Int×Int×Bool))+List.length ys54) (((∃ ys55:List Int,RdS aM σ2 n0 m0 ys55 /\
  Bi (List.length ([]:List Int)+List.length ys55) (∃ ys56:List Int,RdS aM σ2 i0 f0 ys56 /\
  Bi (List.length ([]:List Int)+List.length ys56) (exl 270 [.int .i64,.int .i64,.int .i64,.bool] (([]:List (Int×Int×Int×Bool))++ys54) σ2 (fun A57 l57 c57 s58=>
  exl 3 aM (([]:List Int)++ys55) s58 (fun A59 l59 c59 s60=>exl 3 aM (([]:List Int)++ys56) s60 (fun A61 l61 c61 s62=>
  J7 A3 l3 c3 n4 A57 l57 c57 A59 l59 c59 A61 l61 c61 x0 y0 a1 b2 c0 b0 d0 g0 e0 h0 o0 s0 l0 i1 f1 l1 q1 m1 s1 s62)))))) /\
  (∃ ys63:List Int,RdS aM σ2 n0 m0 ys63/\Bi (List.length ([]:List Int)+List.length ys63) (∃ ys64:List Int,RdS aM σ2 i0 f0 ys64 /\
  Bi (List.length ([]:List Int)+List.length ys64) (exl 270 [.int .i64,.int .i64,.int .i64,.bool] (([]:List (Int×Int×Int×Bool))++ys54) σ2 (fun A65 l65 c65 s66=>
  exl 3 aM (([]:List Int)++ys63) s66 (fun A67 l67 c67 s68=>exl 3 aM (([]:List Int)++ys64) s68 (fun A69 l69 c69 s70=>
  J7 A3 l3 c3 n4 A65 l65 c65 A67 l67 c67 A69 l69 c69 x0 y0 a1 b2 c0 b0 d0 g0 e0 h0 o0 s0 l0 i1 f1 l1 q1 m1 s1 s70))))))))) /\
  (∃ ys71:List (Int×Int×Int×Bool),RdS [.int .i64,.int .i64,.int .i64,.bool] σ2 q0 p0 ys71 /\
  Bi (List.length ([]:List (Int×Int×Int×Bool))+List.length ys71) (∃ ys72:List Int,RdS aM σ2 n0 m0 ys72 /\
  Bi (List.length ([]:List Int)+List.length ys72) (∃ ys73:List Int,RdS aM σ2 i0 f0 ys73 /\
  Bi (List.length ([]:List Int)+List.length ys73) (exl 270 [.int .i64,.int .i64,.int .i64,.bool] (([]:List (Int×Int×Int×Bool))++ys71) σ2 (fun A74 l74 c74 s75=>
  exl 3 aM (([]:List Int)++ys72) s75 (fun A76 l76 c76 s77=>exl 3 aM (([]:List Int)++ys73) s77 (fun A78 l78 c78 s79=>
  J7 A3 l3 c3 n4 A74 l74 c74 A76 l76 c76 A78 l78 c78 x0 y0 a1 b2 c0 b0 d0 g0 e0 h0 o0 s0 l0 i1 f1 l1 q1 m1 s1 s79)))))))) /\
  ((∃ ys80:List (Int×Int×Int×Bool),RdS [.int .i64,.int .i64,.int .i64,.bool] σ2 q0 p0 ys80 /\
  Bi (List.length ([]:List (Int×Int×Int×Bool))+List.length ys80) (∃ ys81:List Int,RdS aM σ2 n0 m0 ys81 /\
  Bi (List.length ([]:List Int)+List.length ys81) (∃ ys82:List Int,RdS aM σ2 i0 f0 ys82 /\
  Bi (List.length ([]:List Int)+List.length ys82) (exl 270 [.int .i64,.int .i64,.int .i64,.bool] (([]:List (Int×Int×Int×Bool))++ys80) σ2 (fun A83 l83 c83 s84=>
  exl 3 aM (([]:List Int)++ys81) s84 (fun A85 l85 c85 s86=>exl 3 aM (([]:List Int)++ys82) s86 (fun A87 l87 c87 s88=>
  J7 A3 l3 c3 n4 A83 l83 c83 A85 l85 c85 A87 l87 c87 x0 y0 a1 b2 c0 b0 d0 g0 e0 h0 o0 s0 l0 i1 f1 l1 q1 m1 s1 s88))))))) /\
  (∃ ys89:List (Int×Int×Int×Bool),RdS [.int .i64,.int .i64,.int .i64,.bool] σ2 q0 p0 ys89 /\
  Bi (List.length ([]:List (Int×Int×Int×Bool))+List.length ys89) (∃ ys90:List Int,RdS aM σ2 n0 m0 ys90 /\
  Bi (List.length ([]:List Int)+List.length ys90) (∃ ys91:List Int,RdS aM σ2 i0 f0 ys91 /\
  Bi (List.length ([]:List Int)+List.length ys91) (exl 270 [.int .i64,.int .i64,.int .i64,.bool] (([]:List (Int×Int×Int×Bool))++ys89) σ2 (fun A92 l92 c92 s93=>
  exl 3 aM (([]:List Int)++ys90) s93 (fun A94 l94 c94 s95=>exl 3 aM (([]:List Int)++ys91) s95 (fun A96 l96 c96 s97=>
  J7 A3 l3 c3 n4 A92 l92 c92 A94 l94 c94 A96 l96 c96 x0 y0 a1 b2 c0 b0 d0 g0 e0 h0 o0 s0 l0 i1 f1 l1 q1 m1 s1 s97))))))))))))
def AH:OA:=⟨[],false,[]⟩
def CY:MPlan:=(.alt 14 false AH (.take 15 AH (.take 16 AH (.alt 17 false AH .done .done))) .done)
def Ll:MPlan:=(.alt 9 false AH (.take 13 AH CY) (.alt 13 true AH (.alt 9 false AH CY .done) .done))
def Tf:MAn:=(aQ (aQ (aQ (.cut ⟨[true,true,false],3,[.slot 1 (.hb 0 0),.slot 2 (.hb 1 0),.slot 3 (.hb 2 0),.modb 2 35 [.sc (.slc),.sc (.int .i64),.sc (.slc),.sc (.slc),.sc (.slc),.sc (.slc),.sc (.int .i64),.sc (.slc),.sc (.slc),.sc (.int .i64),.sc (.int .i64),.sc (.int .i64),.sc (.slc),.sc (.slc)]],[]⟩ (.plan [4,9,14,17] (.take 1 AH (.take 2 AH (.take 3 AH (.take 6 AH (.take 7 AH (.take 11 AH (.take 12 AH (.new 0 AH (.new 5 AH (.new 10 AH (.alt 4 false AH (.take 8 AH Ll) (.alt 8 true AH (.alt 4 false AH Ll (.alt 13 true AH (.alt 4 false AH (.alt 9 false AH CY .done) .done) .done)) (.alt 13 true AH (.alt 4 false AH (.take 8 AH (.alt 9 false AH CY .done)) (.alt 8 true AH (.alt 4 false AH (.alt 9 false AH CY .done) .done) .done)) .done)))))))))))))) (aQ (aQ (aQ (aQ (aQ (aQ .leaf))))))))))
theorem SU (σ:Hp) (j0:aA) (a0 k0:Nat) (t0:Int) (q0:aA) (p0 v0:Nat) (n0:aA) (m0 u0:Nat) (i0:aA) (f0 r0:Nat) (x0:aA) (y0 a1:Nat) (b2:Int) (c0:aA) (b0 d0:Nat) (g0:aA) (e0 h0:Nat) (o0 s0 l0:Int) (i1:aA) (f1 l1:Nat) (q1:aA) (m1 s1:Nat) (R:aB) (h:KQ σ j0 a0 k0 t0 q0 p0 v0 n0 m0 u0 i0 f0 r0 x0 y0 a1 b2 c0 b0 d0 g0 e0 h0 o0 s0 l0 i1 f1 l1 q1 m1 s1 R):Af prog 13 #[(.agg #[aN j0 a0 k0,aD t0,aN q0 p0 v0,aN n0 m0 u0,aN i0 f0 r0,aN x0 y0 a1,aD b2,aN c0 b0 d0,aN g0 e0 h0,aD o0,aD s0,aD l0,aN i1 f1 l1,aN q1 m1 s1])] σ R:=
 Ae F8 Tf Tryz.func13 rfl (h:=h)
theorem Dn:prog.follows .mixedOrders=true:=by kernel_rfl
def HT (σ:Hp) (n low high:Int) (R:aB):Prop:=
 bc (decide (low<=n)) (rt σ R (.bool (decide (n<=high)))) (rt σ R (.bool false))
def Qc:MAn:=(aQ (.seq (.txt [⟨[],false,[]⟩,⟨[],false,[]⟩,⟨[],false,[]⟩,⟨[],true,[]⟩]) .leaf))
theorem Qz (σ:Hp) (n low high:Int) (R:aB) (h:HT σ n low high R):Af prog 197 #[aD n,aD low,aD high] σ R:=
 Ae Dn Qc Tryz.func197 rfl (h:=h)
def E1 (σ:Hp) (j1:aA) (d1 _:Nat) (o1:aA) (g1 _:Nat) (c1:aA) (w0 _:Nat) (R:aB):Prop:=
 aF (fun σ2=>aF (fun s5=>
  aF (fun s8=>aF (fun s11=>
  rt s11 R (aD 0)) (fun J12=>∃ I15:Nat->Int->Hp->Prop,(∃ n160,I15 n160 0 s8)/\∀ n16 n17 s14,I15 n16 n17 s14->∀ _:Nat->Value,bc (decide (n17<(w0:Int))) (ix c1 w0 n17 1 (fun b18 a19=>
  ldI s14 .i64 b18 a19 (fun n20=>aC 197 #[aD n20,aD 0,aD 10000] s14 (aI fun t23 s22=>(bc (!t23) (rt s22 R (aD 100)) (wk .i64 (n17+1) (fun n24=>
  bk s22 n16 (fun m25 s26=>I15 m25 n24 s26)))))))) (J12 s14))) (fun J9=>∃ I29:Nat->Int->Hp->Prop,(∃ n300,I29 n300 0 s5) /\
  ∀ n30 n31 s28,I29 n30 n31 s28->∀ _:Nat->Value,bc (decide (n31<(g1:Int))) (ix o1 g1 n31 1 (fun b32 a33=>
  ldI s28 .i64 b32 a33 (fun n34=>aC 197 #[aD n34,aD 0,aD 9] s28 (aI fun t37 s36=>(bc (!t37) (rt s36 R (aD 100)) (wk .i64 (n31+1) (fun n38=>
  bk s36 n30 (fun m39 s40=>I29 m39 n38 s40)))))))) (J9 s28))) (fun J6=>∃ I43:Nat->Int->Hp->Prop,(∃ n440,I43 n440 0 σ2) /\
  ∀ n44 n45 s42,I43 n44 n45 s42->∀ _:Nat->Value,bc (decide (n45<(d1:Int))) (aF (fun s47=>wk .i64 (n45+1) (fun n49=>bk s47 n44 (fun m50 s51=>I43 m50 n49 s51))) (fun J48=>
  ix j1 d1 n45 4 (fun b52 a53=>ldI s42 .i64 b52 a53 (fun n54=>ldI s42 .i64 b52 (a53+1) (fun n55=>
  ldI s42 .i64 b52 (a53+2) (fun n56=>ldB s42 b52 (a53+3) (fun _=>aG (fun t61 s59=>bc t61 (rt s59 R (aD 100)) (J48 s59)) (fun J60=>wk .i64 ((w0:Int)-1) (fun n62=>
  aC 197 #[aD n54,aD 0,aD n62] s42 (aI fun t65 s64=>(bc (!t65) (J60 true s64) (aC 197 #[aD n55,aD 1,aD 10000] s64 (aI fun t68 s67=>(bc (!t68) (J60 true s67) (aC 197 #[aD n56,aD 0,aD 9] s67 (aI fun t71 s70=>(J60 (!t71) s70))))))))))))))))) (J6 s42))) (fun J3=>aG (fun t75 s73=>bc t75 (rt s73 R (aD 100)) (J3 s73)) (fun J74=>bc (decide ((20:Int)<(d1:Int))) (J74 true σ) (bc (decide ((8:Int)<(g1:Int))) (J74 true σ) (J74 (decide ((10:Int)<(w0:Int))) σ))))
def AJ:OA:=⟨[],false,[]⟩
def Nh:MAn:=(aQ (.cut ⟨[true],1,[.slot 1 (.hb 0 0)],[]⟩ (.cut ⟨[true],1,[.slot 1 (.hb 0 0),.slot 22 (.sc (.bool))],[]⟩ (.txt [AJ,AJ,AJ,AJ,⟨[],true,[]⟩,AJ,AJ,AJ,AJ,AJ,⟨[],true,[]⟩]) (.cond (aQ .leaf) .leaf)) (.cut ⟨[true],1,[.slot 1 (.hb 0 0)],[]⟩ (aQ (.block (.loop ⟨[true],1,[.slot 1 (.hb 0 0),.slot 3 (.sc (.int .i64))],[]⟩ (.seq (aQ (.cond .leaf .leaf)) (.cut ⟨[true],1,[.slot 1 (.hb 0 0)],[(3,true)]⟩ (.block (aQ (.cut ⟨[true,true],2,[.slot 1 (.hb 0 0),.slot 54 (.sc (.bool))],[(3,true)]⟩ (.txt [AJ,AJ,AJ,AJ,AJ,AJ,AJ,AJ,⟨[],true,[]⟩,AJ,AJ,AJ,AJ,AJ,⟨[],true,[]⟩]) (.cond (aQ .leaf) .leaf)))) (.txt [])))))) (.cut ⟨[true],1,[.slot 1 (.hb 0 0)],[]⟩ (aQ (.block (.loop ⟨[true],1,[.slot 1 (.hb 0 0),.slot 5 (.sc (.int .i64))],[]⟩ (.seq (aQ (.cond .leaf .leaf)) (.seq (.block (aQ (.cond (aQ .leaf) .leaf))) (.txt [])))))) (.cut ⟨[true],1,[],[]⟩ (aQ (.block (.loop ⟨[true],1,[.slot 1 (.hb 0 0),.slot 6 (.sc (.int .i64))],[]⟩ (.seq (aQ (.cond .leaf .leaf)) (.seq (.block (aQ (.cond (aQ .leaf) .leaf))) (.txt [])))))) (aQ .leaf))))))
theorem MS (σ:Hp) (j1:aA) (d1 u1:Nat) (o1:aA) (g1 w1:Nat) (c1:aA) (w0 h1:Nat) (R:aB) (h:E1 σ j1 d1 u1 o1 g1 w1 c1 w0 h1 R):Af prog 137 #[(.agg #[aN j1 d1 u1,aN o1 g1 w1,aN c1 w0 h1])] σ R:=
 Ae Dn Nh Tryz.func137 rfl (h:=h)
def IP (σ:Hp) (j1:aA) (d1 _:Nat) (o1:aA) (g1 _:Nat) (_:aA) (_ _:Nat) (rule first second:Int) (R:aB):Prop:=
 ix j1 d1 rule 4 (fun b1 a2=>ldI σ .i64 b1 a2 (fun _=>ldI σ .i64 b1 (a2+1) (fun _=>
  ldI σ .i64 b1 (a2+2) (fun n5=>ldB σ b1 (a2+3) (fun t6=>aF (fun s8=>
  bc (!t6) (rt s8 R (.bool (decide (second=(-1))))) (wk .i64 ((g1:Int)-1) (fun n10=>
  aC 197 #[aD second,aD 0,aD n10] s8 (aI fun t13 s12=>(bc t13 (bc (!decide (second=first)) (ix o1 g1 second 1 (fun b14 a15=>
  ldI s12 .i64 b14 a15 (fun n16=>rt s12 R (.bool (decide (n5<=n16)))))) (rt s12 R (.bool false))) (rt s12 R (.bool false))))))) (fun J9=>
  aG (fun t20 s18=>bc t20 (rt s18 R (.bool false)) (J9 s18)) (fun J19=>
  wk .i64 ((g1:Int)-1) (fun n21=>aC 197 #[aD first,aD 0,aD n21] σ (aI fun t24 s23=>(bc (!t24) (J19 true s23) (ix o1 g1 first 1 (fun b25 a26=>
  ldI s23 .i64 b25 a26 (fun n27=>J19 (decide (n27<n5)) s23)))))))))))))
def Ay:OA:=⟨[],false,[]⟩
def R3:MAn:=(aQ (aQ (.cut ⟨[true,true],2,[.slot 4 (.hb 0 0),.slot 9 (.hb 1 0)],[(2,true),(3,true)]⟩ (.cut ⟨[true,true],2,[.slot 4 (.hb 0 0),.slot 9 (.hb 1 0),.slot 31 (.sc (.bool))],[(2,true),(3,true)]⟩ (.plan [5] (tkVR4 5 0 Ay (.alt 5 false Ay (.take 6 Ay (.take 7 ⟨[],true,[]⟩ (tkVR4 9 8 Ay .done))) .done))) (.cond (aQ .leaf) .leaf)) (.seq (aQ (.cond (aQ .leaf) .leaf)) (.seq (.plan [5] (tkVR4 5 0 Ay (.alt 5 false Ay (.take 6 ⟨[],true,[]⟩ (tkVR4 4 7 Ay (.take 11 ⟨[],true,[]⟩ (tkVR4 10 12 Ay .done)))) .done))) .leaf)))))
theorem RI (σ:Hp) (j1:aA) (d1 u1:Nat) (o1:aA) (g1 w1:Nat) (c1:aA) (w0 h1:Nat) (rule first second:Int) (R:aB) (h:IP σ j1 d1 u1 o1 g1 w1 c1 w0 h1 rule first second R):Af prog 198 #[(.agg #[aN j1 d1 u1,aN o1 g1 w1,aN c1 w0 h1]),aD rule,aD first,aD second] σ R:=
 Ae Dn R3 Tryz.func198 rfl (h:=h)
def KC (σ:Hp) (l_A:aA) (l_n _:Nat) (n:Int) (R:aB):Prop:=
 aF (fun σ2=>aF (fun s5=>
  rt s5 R (.bool true)) (fun J6=>∃ I9:Nat->Int->Hp->Prop,(∃ n100,I9 n100 0 σ2)/\∀ n10 n11 s8,I9 n10 n11 s8->∀ _:Nat->Value,bc (decide (n11<(l_n:Int))) (aF (fun s13=>wk .i64 (n11+1) (fun n15=>bk s13 n10 (fun m16 s17=>I9 m16 n15 s17))) (fun J14=>
  aG (fun t21 s19=>bc t21 (rt s19 R (.bool false)) (J14 s19)) (fun J20=>
  ix l_A l_n n11 5 (fun b22 a23=>ldI s8 .i64 b22 (a23+1) (fun n24=>bc (decide (n24=3)) (ix l_A l_n n11 5 (fun b25 a26=>
  ldI s8 .i64 b25 (a26+2) (fun n27=>J20 (decide (n27=n)) s8))) (J20 false s8)))))) (J6 s8))) (fun J3=>
  aG (fun t31 s29=>bc t31 (rt s29 R (.bool false)) (J3 s29)) (fun J30=>
  wk .i64 ((l_n:Int)-1) (fun n32=>aC 197 #[aD n,aD 0,aD n32] σ (aI fun t35 s34=>(bc (!t35) (J30 true s34) (ix l_A l_n n 5 (fun b36 a37=>ldI s34 .i64 b36 (a37+1) (fun n38=>
  J30 (!decide (n38=2)) s34))))))))
def BE:OA:=⟨[],false,[]⟩
def SZ:MAn:=(aQ (.cut ⟨[],0,[],[(0,true),(1,true)]⟩ (.cut ⟨[],0,[.slot 19 (.sc (.bool))],[(0,true),(1,true)]⟩ (.txt [BE,BE,BE,BE,BE,BE,⟨[],true,[]⟩]) (.cond (aQ .leaf) .leaf)) (.cut ⟨[],0,[],[]⟩ (aQ (.block (.loop ⟨[],0,[.slot 5 (.sc (.int .i64))],[(0,true),(1,true)]⟩ (.seq (aQ (.cond .leaf .leaf)) (.cut ⟨[],0,[],[(0,true),(1,true),(5,true)]⟩ (.block (.cut ⟨[],0,[.slot 40 (.sc (.bool))],[(0,true),(1,true),(5,true)]⟩ (.txt [BE,BE,BE,BE,BE,BE,⟨[],true,[]⟩]) (.cond (aQ .leaf) .leaf))) (.txt [])))))) (aQ .leaf))))
theorem S6 (σ:Hp) (l_A:aA) (l_n l_c:Nat) (n:Int) (R:aB) (h:KC σ l_A l_n l_c n R):Af prog 199 #[aN l_A l_n l_c,aD n] σ R:=
 Ae Dn SZ Tryz.func199 rfl (h:=h)
def Jj (σ:Hp) (j1:aA) (d1 u1:Nat) (o1:aA) (g1 w1:Nat) (c1:aA) (w0 h1:Nat) (e2:aA) (c2 f2:Nat) (g2 d2 x_A x_B x_C:Int) (R:aB):Prop:=
 aH (fun n4 σ2=>aC 197 #[aD g2,aD n4,aD 10000] σ2 (aI fun t7 s6=>(bc (!t7) (rt s6 R (.bool false)) (wk .i64 ((w0:Int)-1) (fun n8=>
  wk .i64 ((g1:Int)-1) (fun n9=>aC 197 #[aD x_A,aD 0,aD n8] s6 (aI fun t12 s11=>((Hp.Sub s6 s11/\aC 197 #[aD x_B,aD 0,aD n9] s11 (aI fun t15 s14=>(bc (decide (d2=1)) (wk .i64 ((d1:Int)-1) (fun n16=>
  aC 197 #[aD x_A,aD 0,aD n16] s14 (aI fun t19 s18=>(bc t19 (aC 198 #[(.agg #[aN j1 d1 u1,aN o1 g1 w1,aN c1 w0 h1]),aD x_A,aD x_B,aD x_C] s18 (aI fun t22 s21=>(rt s21 R (.bool t22)))) (rt s18 R (.bool false)))))) (bc (decide (d2=2)) (bc t12 (aC 197 #[aD x_B,aD 1,aD 3] s14 (aI fun t25 s24=>(bc t25 (rt s24 R (.bool (decide (x_C=0)))) (rt s24 R (.bool false))))) (rt s14 R (.bool false))) (bc (decide (d2=3)) (aC 199 #[aN e2 c2 f2,aD x_A] s14 (aI fun t28 s27=>(bc t28 (bc t15 (rt s27 R (.bool (decide (x_C=0)))) (rt s27 R (.bool false))) (rt s27 R (.bool false))))) (bc (decide (d2=4)) (bc t12 (bc t15 (rt s14 R (.bool (decide (x_C=0)))) (rt s14 R (.bool false))) (rt s14 R (.bool false))) (bc (decide (d2=5)) (bc t12 (aC 197 #[aD x_B,aD 0,aD 10000] s14 (aI fun t31 s30=>(bc t31 (rt s30 R (.bool (decide (x_C=0)))) (rt s30 R (.bool false))))) (rt s14 R (.bool false))) (bc (decide (d2=6)) (bc t12 (bc (decide (x_B=0)) (rt s14 R (.bool (decide (x_C=0)))) (rt s14 R (.bool false))) (rt s14 R (.bool false))) (rt s14 R (.bool false)))))))))))))))))) (fun J3=>
  bc (decide ((0:Int)<(c2:Int))) (wk .i64 ((c2:Int)-1) (fun n32=>
  ix e2 c2 n32 5 (fun b33 a34=>ldI σ .i64 b33 a34 (fun n35=>J3 n35 σ)))) (J3 0 σ))
def Aw:OA:=⟨[],false,[]⟩
def FY:MAn:=(.seq (.txt [Aw,⟨[],true,[]⟩,Aw,Aw,Aw,Aw,⟨[],true,[]⟩]) .leaf)
def Su:MAn:=(aQ (aQ (.cut ⟨[true,true],2,[.slot 3 (.hb 0 0),.slot 5 (.hb 1 0),.slot 7 (.sc (.int .i64))],[(1,true)]⟩ (aQ (.cond (.txt []) .leaf)) (.seq (aQ (.cond (aQ .leaf) .leaf)) (.seq (.plan [13] (tkVR4 6 0 Aw (tkVR4 6 7 Aw (.alt 6 true Aw (.alt 13 false Aw (.take 14 Aw (.take 15 Aw .done)) .done) .done)))) (.seq (aQ (.block (aQ (.cond (.seq (.txt [Aw,Aw,Aw,Aw,Aw,Aw,Aw,⟨[],true,[]⟩]) .leaf) (aQ (.cond FY (aQ (.cond (.seq (.txt [Aw,Aw,Aw,Aw,⟨[],true,[]⟩,Aw,Aw,⟨[],true,[]⟩]) .leaf) (aQ (.cond (.seq (.txt [Aw,⟨[],true,[]⟩,Aw,Aw,⟨[],true,[]⟩]) .leaf) (aQ (.cond FY (aQ (.cond FY .leaf)))))))))))))) (aQ .leaf)))))))
theorem R2 (σ:Hp) (j1:aA) (d1 u1:Nat) (o1:aA) (g1 w1:Nat) (c1:aA) (w0 h1:Nat) (e2:aA) (c2 f2:Nat) (g2 d2 x_A x_B x_C:Int) (R:aB) (h:Jj σ j1 d1 u1 o1 g1 w1 c1 w0 h1 e2 c2 f2 g2 d2 x_A x_B x_C R):Af prog 138 #[(.agg #[aN j1 d1 u1,aN o1 g1 w1,aN c1 w0 h1]),aN e2 c2 f2,(.agg #[aD g2,aD d2,aD x_A,aD x_B,aD x_C])] σ R:=
 Ae Dn Su Tryz.func138 rfl (h:=h)
def Jp (σ:Hp) (j1:aA) (d1 u1:Nat) (o1:aA) (g1 w1:Nat) (c1:aA) (w0 h1:Nat) (l_A:aA) (l_n l_c:Nat) (R:aB):Prop:=
 aC 137 #[(.agg #[aN j1 d1 u1,aN o1 g1 w1,aN c1 w0 h1])] σ (aJ fun n3 σ2=>(bc (!decide (n3=0)) (rt σ2 R (.tuple #[aD 0,aD n3])) (bc (decide ((100:Int)<(l_n:Int))) (rt σ2 R (.tuple #[aD 0,aD 2])) (aF (fun s5=>rt s5 R (.tuple #[aD 0,aD 0])) (fun J6=>∃ I9:Nat->Int->Hp->Prop,(∃ n100,I9 n100 0 σ2) /\
  ∀ n10 n11 s8,I9 n10 n11 s8->∀ _:Nat->Value,bc (decide (n11<(l_n:Int))) ((0<=n11 /\
  n11<=(l_c:Int)/\ix l_A l_n n11 5 (fun b12 a13=>ldI s8 .i64 b12 a13 (fun n14=>ldI s8 .i64 b12 (a13+1) (fun n15=>
  ldI s8 .i64 b12 (a13+2) (fun n16=>ldI s8 .i64 b12 (a13+3) (fun n17=>ldI s8 .i64 b12 (a13+4) (fun n18=>
  aC 138 #[(.agg #[aN j1 d1 u1,aN o1 g1 w1,aN c1 w0 h1]),(aN l_A ((n11:Int).toNat) l_c),(.agg #[aD n14,aD n15,aD n16,aD n17,aD n18])] s8 (aI fun t21 s20=>(bc (!t21) (rt s20 R (.tuple #[aD n11,aD 101])) (wk .i64 (n11+1) (fun n22=>
  bk s20 n10 (fun m23 s24=>I9 m23 n22 s24))))))))))))) (J6 s8))))))
def BK:OA:=⟨[],false,[]⟩
def Sr:MAn:=(aQ (.seq (aQ (aQ (.cond (aQ .leaf) .leaf))) (.seq (aQ (.cond (aQ .leaf) .leaf)) (.cut ⟨[true],1,[],[]⟩ (aQ (.block (.loop ⟨[true],1,[.slot 2 (.hb 0 0),.slot 7 (.sc (.int .i64))],[(1,true)]⟩ (.seq (aQ (.cond .leaf .leaf)) (.seq (.block (.seq (.plan [8] (tkVR4 8 0 BK (.alt 8 false BK (.take 9 BK .done) .done))) (.cond (aQ .leaf) .leaf))) (.txt [])))))) (aQ .leaf)))))
theorem RU (σ:Hp) (j1:aA) (d1 u1:Nat) (o1:aA) (g1 w1:Nat) (c1:aA) (w0 h1:Nat) (l_A:aA) (l_n l_c:Nat) (R:aB) (h:Jp σ j1 d1 u1 o1 g1 w1 c1 w0 h1 l_A l_n l_c R):Af prog 78 #[(.agg #[aN j1 d1 u1,aN o1 g1 w1,aN c1 w0 h1]),aN l_A l_n l_c] σ R:=
 Ae Dn Sr Tryz.func78 rfl (h:=h)
def KW (σ:Hp) (l_A:aA) (l_n l_c:Nat) (day:Int) (R:aB):Prop:=
 aH (fun n4 σ2=>(0<=n4/\n4<=(l_c:Int)/\rt σ2 R (aN l_A ((n4:Int).toNat) l_c))) (fun J3=>
  ∃ I7:Nat->Int->Hp->Prop,(∃ n80,I7 n80 0 σ)/\∀ n8 n9 s6,I7 n8 n9 s6->∀ _:Nat->Value,aF (fun s11=>wk .i64 (n9+1) (fun n13=>bk s11 n8 (fun m14 s15=>I7 m14 n13 s15))) (fun J12=>
  aG (fun t19 s17=>bc t19 (J12 s17) (J3 n9 s17)) (fun J18=>
  bc (decide (n9<(l_n:Int))) (ix l_A l_n n9 5 (fun b20 a21=>ldI s6 .i64 b20 a21 (fun n22=>
  J18 (decide (n22<=day)) s6))) (J18 false s6))))
def Tr:MAn:=(aQ (aQ (.cut ⟨[],0,[.slot 5 (.sc (.int .i64))],[(0,true)]⟩ (.block (.loop ⟨[],0,[.slot 5 (.sc (.int .i64))],[(0,true),(1,true)]⟩ (.cut ⟨[],0,[],[(0,true),(1,true),(5,true)]⟩ (.cut ⟨[],0,[.slot 18 (.sc (.bool))],[(0,true),(1,true),(5,true)]⟩ (.txt [⟨[],false,[]⟩,⟨[],false,[]⟩,⟨[],false,[]⟩,⟨[],false,[]⟩,⟨[],true,[]⟩]) (.cond .leaf .leaf)) (.block (.txt []))))) (aQ .leaf))))
theorem Tu (σ:Hp) (l_A:aA) (l_n l_c:Nat) (day:Int) (R:aB) (h:KW σ l_A l_n l_c day R):Af prog 142 #[aN l_A l_n l_c,aD day] σ R:=
 Ae Dn Tr Tryz.func142 rfl (h:=h)
def FT (σ:Hp) (j1:aA) (d1 u1:Nat) (o1:aA) (g1 w1:Nat) (c1:aA) (w0 h1:Nat) (l_A:aA) (l_n l_c:Nat) (day:Int) (R:aB):Prop:=
 aC 78 #[(.agg #[aN j1 d1 u1,aN o1 g1 w1,aN c1 w0 h1]),aN l_A l_n l_c] σ (fun v1 σ2=>
  ∃ n3 n4:Int,(v1=(.tuple #[aD n3,aD n4])/\bc (!decide (n4=0)) (rt σ2 R (aD n4)) (aC 197 #[aD day,aD 0,aD 10000] σ2 (aI fun t7 s6=>(bc (!t7) (rt s6 R (aD 1)) (rt s6 R (aD 0)))))))
def NP:MAn:=(aQ (.seq (aQ (aQ (.cond (aQ .leaf) .leaf))) (.seq (aQ (.cond (aQ .leaf) .leaf)) (aQ .leaf))))
theorem Oj (σ:Hp) (j1:aA) (d1 u1:Nat) (o1:aA) (g1 w1:Nat) (c1:aA) (w0 h1:Nat) (l_A:aA) (l_n l_c:Nat) (day:Int) (R:aB) (h:FT σ j1 d1 u1 o1 g1 w1 c1 w0 h1 l_A l_n l_c day R):Af prog 140 #[(.agg #[aN j1 d1 u1,aN o1 g1 w1,aN c1 w0 h1]),aN l_A l_n l_c,aD day] σ R:=
 Ae Dn NP Tryz.func140 rfl (h:=h)
def Ja (σ:Hp) (j1:aA) (d1 _:Nat) (_:aA) (_ _:Nat) (_:aA) (_ _:Nat) (l_A:aA) (l_n _:Nat) (rule day:Int) (R:aB):Prop:=
 aH (fun n4 σ2=>bc (decide ((0:Int)<=n4)) (wk .i64 (day-n4) (fun n5=>
  ix j1 d1 rule 4 (fun b6 a7=>ldI σ2 .i64 b6 (a7+1) (fun n8=>rt σ2 R (.bool (decide (n5<n8))))))) (rt σ2 R (.bool false))) (fun J3=>
  ∃ I11:Nat->Int->Int->Hp->Prop,(∃ n120,I11 n120 (-1) 0 σ)/\∀ n12 n13 n14 s10,I11 n12 n13 n14 s10->∀ _:Nat->Value,bc (decide (n14<(l_n:Int))) (aH (fun n18 s16=>wk .i64 (n14+1) (fun n19=>bk s16 n12 (fun m20 s21=>I11 m20 n18 n19 s21))) (fun J17=>
  aH (fun n25 s23=>aG (fun t29 s27=>bc t29 (J17 (-1) s27) (J17 n25 s27)) (fun J28=>ix l_A l_n n14 5 (fun b30 a31=>
  ldI s23 .i64 b30 (a31+1) (fun n32=>bc (decide (n32=6)) (ix l_A l_n n14 5 (fun b33 a34=>ldI s23 .i64 b33 (a34+2) (fun n35=>
  ix j1 d1 rule 4 (fun b36 a37=>ldI s23 .i64 b36 a37 (fun n38=>J28 (decide (n35=n38)) s23))))) (J28 false s23))))) (fun J24=>
  aG (fun t42 s40=>bc t42 (ix l_A l_n n14 5 (fun b43 a44=>
  ldI s40 .i64 b43 a44 (fun n45=>J24 n45 s40))) (J24 n13 s40)) (fun J41=>ix l_A l_n n14 5 (fun b46 a47=>
  ldI s10 .i64 b46 (a47+1) (fun n48=>bc (decide (n48=1)) (ix l_A l_n n14 5 (fun b49 a50=>ldI s10 .i64 b49 (a50+2) (fun n51=>
  J41 (decide (n51=rule)) s10))) (J41 false s10))))))) (J3 n13 s10))
def AN:OA:=⟨[],false,[]⟩
def Rf:MAn:=(aQ (aQ (.cut ⟨[true],1,[.slot 4 (.hb 0 0),.slot 9 (.sc (.int .i64))],[(2,true),(3,true)]⟩ (aQ (.block (.loop ⟨[true],1,[.slot 4 (.hb 0 0),.slot 9 (.sc (.int .i64)),.slot 10 (.sc (.int .i64))],[(1,true),(2,true),(3,true)]⟩ (.seq (aQ (.cond .leaf .leaf)) (.cut ⟨[true],1,[.slot 4 (.hb 0 0),.slot 9 (.sc (.int .i64))],[(1,true),(2,true),(3,true),(10,true)]⟩ (.block (.cut ⟨[true],1,[.slot 4 (.hb 0 0),.slot 9 (.sc (.int .i64))],[(1,true),(2,true),(3,true),(10,true)]⟩ (.cut ⟨[true],1,[.slot 4 (.hb 0 0),.slot 31 (.sc (.bool))],[(1,true),(2,true),(3,true),(9,true),(10,true)]⟩ (.txt [AN,AN,AN,AN,AN,AN,⟨[],true,[]⟩]) (.cond (.txt []) .leaf)) (.cut ⟨[true],1,[.slot 4 (.hb 0 0),.slot 56 (.sc (.bool))],[(1,true),(2,true),(3,true),(9,true),(10,true)]⟩ (.plan [] (tkVR4 6 0 AN (.take 6 ⟨[],true,[]⟩ (tkVR4 13 7 AN .done)))) (.cond (.txt []) .leaf)))) (.txt [])))))) (.seq (.txt [AN,AN,⟨[],true,[]⟩]) .leaf))))
theorem Sn (σ:Hp) (j1:aA) (d1 u1:Nat) (o1:aA) (g1 w1:Nat) (c1:aA) (w0 h1:Nat) (l_A:aA) (l_n l_c:Nat) (rule day:Int) (R:aB) (h:Ja σ j1 d1 u1 o1 g1 w1 c1 w0 h1 l_A l_n l_c rule day R):Af prog 200 #[(.agg #[aN j1 d1 u1,aN o1 g1 w1,aN c1 w0 h1]),aN l_A l_n l_c,aD rule,aD day] σ R:=
 Ae Dn Rf Tryz.func200 rfl (h:=h)
def Gz (σ:Hp) (j1:aA) (d1 u1:Nat) (o1:aA) (g1 w1:Nat) (c1:aA) (w0 h1:Nat) (l_A:aA) (l_n l_c:Nat) (ride day:Int) (R:aB):Prop:=
 aG (fun t4 σ2=>cut (α:=List Int->Hp->Prop) (fun xs8 s6=>
  ∀ _:Nat->Value,(0<=(4:Int)/\(4:Int)<=4/\(4:Int)<=(1000000000:Int)/\ix c1 w0 ride 1 (fun b9 a10=>
  ldI s6 .i64 b9 a10 (fun n11=>cut (α:=Bool->Int->List Int->Hp->Prop) (fun t15 n16 xs17 s13=>
  ∀ _:Nat->Value,cut (α:=List Int->Hp->Prop) (fun xs21 s19=>∀ _:Nat->Value,cut (α:=List Int->Hp->Prop) (fun xs25 s23=>
  ∀ _:Nat->Value,cut (α:=List Int->Hp->Prop) (fun xs29 s27=>∀ _:Nat->Value,exl 3 aM xs29 s27 (fun A30 l30 c30 s31=>
  rt s31 R (aN A30 l30 c30))) (fun J28=>bc (decide (n16<day)) (Bi (List.length xs25+List.length ([4]:List Int)) (J28 (xs25++([4]:List Int)) s23)) (J28 xs25 s23))) (fun J24=>
  bc (!t15) (Bi (List.length xs21+List.length ([3]:List Int)) (J24 (xs21++([3]:List Int)) s19)) (J24 xs21 s19))) (fun J20=>
  aG (fun t35 s33=>bc t35 (Bi (List.length xs8+List.length ([2]:List Int)) (J20 (xs8++([2]:List Int)) s33)) (J20 xs8 s33)) (fun J34=>
  (0<=(3:Int)/\3<((List.length xs17:Nat):Int)/\lat xs17 ((3:Int).toNat) (fun r36=>bc (decide ((0:Int)<r36)) (J34 true s13) ((0<=(2:Int) /\
  2<((List.length xs17:Nat):Int)/\lat xs17 ((2:Int).toNat) (fun r37=>J34 (decide ((1:Int)<r37)) s13)))))))) (fun J14=>
  ∃ I40:Nat->Bool->Int->Int->List Int->Hp->Prop,(∃ n410,I40 n410 false n11 0 (List.replicate (4:Int).toNat 0:List Int) s6) /\
  ∀ n41 t42 n43 n44 xs45 s39,I40 n41 t42 n43 n44 xs45 s39->∀ _:Nat->Value,bc (decide (n44<(l_n:Int))) (cut (α:=Bool->Int->List Int->Hp->Prop) (fun t49 n50 xs51 s47=>
  ∀ _:Nat->Value,wk .i64 (n44+1) (fun n52=>bk s47 n41 (fun m53 s54=>I40 m53 t49 n50 n52 xs51 s54))) (fun J48=>
  ix l_A l_n n44 5 (fun b55 a56=>ldI s39 .i64 b55 (a56+2) (fun n57=>bc (!decide (n57=ride)) (J48 t42 n43 xs45 s39) (ix l_A l_n n44 5 (fun b58 a59=>
  ldI s39 .i64 b58 (a59+1) (fun n60=>bc (decide (n60=2)) (aC 199 #[aN l_A l_n l_c,aD n44] s39 (aI fun t63 s62=>(bc t63 (ix l_A l_n n44 5 (fun b64 a65=>ldI s62 .i64 b64 (a65+3) (fun n66=>
  (0<=n66/\n66<((List.length xs45:Nat):Int)/\lat xs45 ((n66:Int).toNat) (fun r67=>wk .i64 (r67+1) (fun n68=>
  (0<=n66/\n66<((List.length xs45:Nat):Int)/\lat xs45 ((n66:Int).toNat) (fun _=>J48 t42 n43 (List.set xs45 ((n66:Int).toNat) n68) s62)))))))) (J48 t42 n43 xs45 s62)))) (bc (decide (n60=4)) (bc t42 (J48 true n43 xs45 s39) (ix l_A l_n n44 5 (fun b70 a71=>
  ldI s39 .i64 b70 a71 (fun n72=>J48 (decide (n72=day)) n43 xs45 s39)))) (bc (decide (n60=6)) (J48 false n43 xs45 s39) (bc (decide (n60=5)) (ix l_A l_n n44 5 (fun b73 a74=>
  ldI s39 .i64 b73 (a74+3) (fun n75=>J48 t42 n75 xs45 s39))) (J48 t42 n43 xs45 s39))))))))))) (J14 t42 n43 xs45 s39)))))) (fun J7=>
  bc (!t4) (adp 3 aM none 0 0 σ2 (fun (xs76:List Int) s77=>Bi (List.length xs76+List.length ([1]:List Int)) (J7 (xs76++([1]:List Int)) s77))) (adp 3 aM none 0 0 σ2 (fun (xs78:List Int) s79=>
  J7 xs78 s79)))) (fun J3=>∃ I82:Nat->Bool->Int->Hp->Prop,(∃ n830,I82 n830 true 0 σ)/\∀ n83 t84 n85 s81,I82 n83 t84 n85 s81->∀ _:Nat->Value,bc (decide (n85<(d1:Int))) (aG (fun t89 s87=>wk .i64 (n85+1) (fun n90=>bk s87 n83 (fun m91 s92=>I82 m91 t89 n90 s92))) (fun J88=>
  bc t84 (ix j1 d1 n85 4 (fun b93 a94=>ldI s81 .i64 b93 a94 (fun n95=>bc (!decide (n95=ride)) (J88 true s81) (aC 200 #[(.agg #[aN j1 d1 u1,aN o1 g1 w1,aN c1 w0 h1]),aN l_A l_n l_c,aD n85,aD day] s81 (aI fun t98 s97=>(J88 t98 s97)))))) (J88 false s81))) (J3 t84 s81))
def Bh:OA:=⟨[],false,[]⟩
def Pu:MAn:=(aQ (aQ (aQ (.cut ⟨[true],1,[.slot 4 (.hb 0 0),.slot 10 (.sc (.bool))],[(1,true),(2,true),(3,true),(9,true)]⟩ (aQ (.block (.loop ⟨[true],1,[.slot 4 (.hb 0 0),.slot 10 (.sc (.bool)),.slot 11 (.sc (.int .i64))],[(1,true),(2,true),(3,true),(9,true)]⟩ (.seq (aQ (.cond .leaf .leaf)) (.cut ⟨[true],1,[.slot 4 (.hb 0 0),.slot 10 (.sc (.bool))],[(1,true),(2,true),(3,true),(9,true),(11,true)]⟩ (.block (.txt [Bh,⟨[],true,[]⟩,Bh,Bh,Bh,Bh,Bh,Bh,Bh,Bh,⟨[],true,[]⟩])) (.txt [])))))) (.cut ⟨[true],2,[.slot 4 (.hb 0 0),.slot 9 (.lst 1 3 aM)],[(1,true),(2,true),(3,true)]⟩ (aQ (.cond (.txt []) .leaf)) (aQ (aQ (aQ (.cut ⟨[true,true,false],3,[.slot 9 (.hl 1 0),.slot 12 (.hl 2 0),.slot 13 (.sc (.bool)),.slot 14 (.sc (.int .i64)),.modl 2 0 3 aM],[(3,true)]⟩ (aQ (.block (.loop ⟨[true,true,false],3,[.slot 9 (.hl 1 0),.slot 12 (.hl 2 0),.slot 13 (.sc (.bool)),.slot 14 (.sc (.int .i64)),.slot 15 (.sc (.int .i64)),.modl 2 0 3 aM],[(1,true),(2,true),(3,true)]⟩ (.seq (aQ (.cond .leaf .leaf)) (.cut ⟨[true,true,false],3,[.slot 9 (.hl 1 0),.slot 12 (.hl 2 0),.slot 13 (.sc (.bool)),.slot 14 (.sc (.int .i64)),.modl 2 0 3 aM],[(1,true),(2,true),(3,true),(15,true)]⟩ (.block (.seq (aQ (.cond .leaf .leaf)) (aQ (.block (aQ (.cond (aQ (.cond (.txt []) .leaf)) (aQ (.cond (.txt [Bh,⟨[],true,[]⟩]) (aQ (.cond (.txt []) (aQ (.cond (.txt []) .leaf)))))))))))) (.txt [])))))) (.cut ⟨[true,false,true],3,[.slot 9 (.lst 1 3 aM)],[(3,true),(13,true),(14,true)]⟩ (.cut ⟨[true,true,true],3,[.slot 9 (.hl 1 0),.slot 115 (.sc (.bool))],[(3,true),(13,true),(14,true)]⟩ (.txt [Bh,Bh,Bh,Bh,⟨[],true,[]⟩]) (.cond (.txt []) .leaf)) (.cut ⟨[true,false,true],3,[.slot 9 (.lst 1 3 aM)],[(3,true),(14,true)]⟩ (aQ (.cond (.txt []) .leaf)) (.cut ⟨[true,false,true],3,[.slot 9 (.lst 1 3 aM)],[]⟩ (aQ (.cond (.txt []) .leaf)) (aQ .leaf)))))))))))))
theorem PJ (σ:Hp) (j1:aA) (d1 u1:Nat) (o1:aA) (g1 w1:Nat) (c1:aA) (w0 h1:Nat) (l_A:aA) (l_n l_c:Nat) (ride day:Int) (R:aB) (h:Gz σ j1 d1 u1 o1 g1 w1 c1 w0 h1 l_A l_n l_c ride day R):Af prog 141 #[(.agg #[aN j1 d1 u1,aN o1 g1 w1,aN c1 w0 h1]),aN l_A l_n l_c,aD ride,aD day] σ R:=
 Ae Dn Pu Tryz.func141 rfl (h:=h)
def FI (σ:Hp) (j1:aA) (d1 u1:Nat) (o1:aA) (g1 w1:Nat) (c1:aA) (w0 h1:Nat) (l_A:aA) (l_n l_c:Nat) (day:Int) (R:aB):Prop:=
 aC 140 #[(.agg #[aN j1 d1 u1,aN o1 g1 w1,aN c1 w0 h1]),aN l_A l_n l_c,aD day] σ (aJ fun n3 σ2=>(bc (!decide (n3=0)) (rt σ2 R (.tuple #[aN none 0 0,aD n3])) (cut (α:=aA->Nat->Nat->Hp->Prop) (fun A7 l7 c7 s5=>
  ∀ _:Nat->Value,rt s5 R (.tuple #[aN A7 l7 c7,aD 0])) (fun J6=>∃ I10:Nat->aA->Nat->Nat->Int->Hp->Prop,(∃ n110,I10 n110 none 0 0 0 σ2) /\
  ∀ n11 A12 l12 c12 n13 s9,I10 n11 A12 l12 c12 n13 s9->∀ _:Nat->Value,bc (decide (n13<(w0:Int))) (cut (α:=aA->Nat->Nat->Hp->Prop) (fun A17 l17 c17 s15=>
  ∀ _:Nat->Value,wk .i64 (n13+1) (fun n18=>bk s15 n11 (fun m19 s20=>I10 m19 A17 l17 c17 n18 s20))) (fun J16=>
  aC 142 #[aN l_A l_n l_c,aD day] s9 (aK fun A23 l23 c23 s22=>((Hp.Sub s9 s22/\aC 141 #[(.agg #[aN j1 d1 u1,aN o1 g1 w1,aN c1 w0 h1]),aN A23 l23 c23,aD n13,aD day] s22 (aK fun _ l26 _ s25=>(bc (decide ((l26:Int)=0)) (adp 3 aM A12 l12 c12 s25 (fun (xs27:List Int) s28=>
  Bi (List.length xs27+List.length ([n13]:List Int)) (exl 3 aM (xs27++([n13]:List Int)) s28 (fun A29 l29 c29 s30=>
  J16 A29 l29 c29 s30)))) (J16 A12 l12 c12 s25)))))))) (J6 A12 l12 c12 s9)))))
def BC:OA:=⟨[],false,[]⟩
def Oz:MAn:=(aQ (.seq (aQ (aQ (.cond (aQ .leaf) .leaf))) (aQ (.cut ⟨[true],1,[.slot 9 (.sc (.slc))],[]⟩ (aQ (.block (.loop ⟨[true],1,[.slot 3 (.hb 0 0),.slot 9 (.sc (.slc)),.slot 10 (.sc (.int .i64))],[(1,true),(2,true)]⟩ (.seq (aQ (.cond .leaf .leaf)) (.cut ⟨[true],1,[.slot 3 (.hb 0 0),.slot 9 (.sc (.slc))],[(1,true),(2,true),(10,true)]⟩ (.block (.seq (.plan [6] (.take 0 BC (.take 1 BC (.take 2 BC (.take 4 BC (.take 5 BC (.alt 3 true BC (.alt 6 false BC (.take 7 BC (.take 8 BC .done)) .done) .done))))))) (.cond (.txt []) .leaf))) (.txt [])))))) (aQ .leaf)))))
theorem N3 (σ:Hp) (j1:aA) (d1 u1:Nat) (o1:aA) (g1 w1:Nat) (c1:aA) (w0 h1:Nat) (l_A:aA) (l_n l_c:Nat) (day:Int) (R:aB) (h:FI σ j1 d1 u1 o1 g1 w1 c1 w0 h1 l_A l_n l_c day R):Af prog 80 #[(.agg #[aN j1 d1 u1,aN o1 g1 w1,aN c1 w0 h1]),aN l_A l_n l_c,aD day] σ R:=
 Ae Dn Oz Tryz.func80 rfl (h:=h)
theorem D1:prog.follows .mixedOrders=true:=by kernel_rfl
def HV (σ:Hp) (n low high:Int) (R:aB):Prop:=
 bc (decide (low<=n)) (rt σ R (.bool (decide (n<=high)))) (rt σ R (.bool false))
def PS:MAn:=(aQ (.seq (.txt [⟨[],false,[]⟩,⟨[],false,[]⟩,⟨[],false,[]⟩,⟨[],true,[]⟩]) .leaf))
theorem Qw (σ:Hp) (n low high:Int) (R:aB) (h:HV σ n low high R):Af prog 139 #[aD n,aD low,aD high] σ R:=
 Ae D1 PS Tryz.func139 rfl (h:=h)
def Jl (σ:Hp) (e1:aA) (z0 _:Nat) (r1:aA) (k1 _:Nat) (x1 z1 y1:Int) (R:aB):Prop:=
 aF (fun σ2=>aF (fun s5=>
  aF (fun s8=>rt s8 R (aD 0)) (fun J9=>∃ I12:Nat->Int->Hp->Prop,(∃ n130,I12 n130 0 s5) /\
  ∀ n13 n14 s11,I12 n13 n14 s11->∀ _:Nat->Value,bc (decide (n14<(k1:Int))) (aF (fun s16=>wk .i64 (n14+1) (fun n18=>bk s16 n13 (fun m19 s20=>I12 m19 n18 s20))) (fun J17=>
  ix r1 k1 n14 4 (fun b21 a22=>ldI s11 .i64 b21 a22 (fun n23=>ldI s11 .i64 b21 (a22+1) (fun n24=>
  ldI s11 .i64 b21 (a22+2) (fun n25=>ldI s11 .i64 b21 (a22+3) (fun n26=>aG (fun t30 s28=>bc t30 (rt s28 R (aD 50)) (J17 s28)) (fun J29=>wk .i64 ((z0:Int)-1) (fun n31=>
  aC 139 #[aD n23,aD 0,aD n31] s11 (aI fun t34 s33=>(bc (!t34) (J29 true s33) (aC 139 #[aD n24,aD 0,aD 2] s33 (aI fun t37 s36=>(bc (!t37) (J29 true s36) (aC 139 #[aD n25,aD 1,aD 1000] s36 (aI fun t40 s39=>(bc (!t40) (J29 true s39) (aC 139 #[aD n26,aD 0,aD 1000] s39 (aI fun t43 s42=>(J29 (!t43) s42)))))))))))))))))))) (J9 s11))) (fun J6=>∃ I46:Nat->Int->Hp->Prop,(∃ n470,I46 n470 0 σ2) /\
  ∀ n47 n48 s45,I46 n47 n48 s45->∀ _:Nat->Value,bc (decide (n48<(z0:Int))) (aF (fun s50=>wk .i64 (n48+1) (fun n52=>bk s50 n47 (fun m53 s54=>I46 m53 n52 s54))) (fun J51=>
  ix e1 z0 n48 4 (fun b55 a56=>ldI s45 .i64 b55 a56 (fun n57=>ldI s45 .i64 b55 (a56+1) (fun n58=>
  ldI s45 .i64 b55 (a56+2) (fun n59=>ldI s45 .i64 b55 (a56+3) (fun n60=>aG (fun t64 s62=>bc t64 (rt s62 R (aD 50)) (J51 s62)) (fun J63=>wk .i64 (n48-1) (fun n65=>
  aC 139 #[aD n57,(aD (-1)),aD n65] s45 (aI fun t68 s67=>(bc (!t68) (J63 true s67) (aC 139 #[aD n58,aD 1,aD 1000] s67 (aI fun t71 s70=>(bc (!t71) (J63 true s70) (aC 139 #[aD n59,aD 0,aD 20] s70 (aI fun t74 s73=>(bc (!t74) (J63 true s73) (aC 139 #[aD n60,aD 1,aD 10000] s73 (aI fun t77 s76=>(J63 (!t77) s76)))))))))))))))))))) (J6 s45))) (fun J3=>aG (fun t81 s79=>bc t81 (rt s79 R (aD 50)) (J3 s79)) (fun J80=>bc (decide ((10:Int)<(z0:Int))) (J80 true σ) (bc (decide ((16:Int)<(k1:Int))) (J80 true σ) (aC 139 #[aD x1,aD 1,aD 1000] σ (aI fun t84 s83=>(bc (!t84) (J80 true s83) (aC 139 #[aD z1,aD 0,aD 20] s83 (aI fun t87 s86=>(bc (!t87) (J80 true s86) (aC 139 #[aD y1,aD 1,aD 1000] s86 (aI fun t90 s89=>(J80 (!t90) s89))))))))))))
def Al:OA:=⟨[],false,[]⟩
def So:MAn:=(aQ (.cut ⟨[true],1,[.slot 1 (.hb 0 0)],[]⟩ (.cut ⟨[true],1,[.slot 1 (.hb 0 0),.slot 34 (.sc (.bool))],[]⟩ (.txt [Al,Al,Al,Al,⟨[],true,[]⟩,Al,Al,Al,Al,Al,⟨[],true,[]⟩,Al,Al,Al,Al,Al,⟨[],true,[]⟩,Al,Al,Al,Al,Al,⟨[],true,[]⟩]) (.cond (aQ .leaf) .leaf)) (.cut ⟨[true],1,[.slot 1 (.hb 0 0)],[]⟩ (aQ (.block (.loop ⟨[true],1,[.slot 1 (.hb 0 0),.slot 3 (.sc (.int .i64))],[]⟩ (.seq (aQ (.cond .leaf .leaf)) (.cut ⟨[true],1,[.slot 1 (.hb 0 0)],[(3,true)]⟩ (.block (aQ (.cut ⟨[true,true],2,[.slot 1 (.hb 0 0),.slot 70 (.sc (.bool))],[(3,true)]⟩ (.txt [Al,Al,Al,Al,Al,Al,⟨[],true,[]⟩,Al,Al,Al,Al,Al,⟨[],true,[]⟩,Al,Al,Al,Al,Al,⟨[],true,[]⟩]) (.cond (aQ .leaf) .leaf)))) (.txt [])))))) (.cut ⟨[true],1,[],[]⟩ (aQ (.block (.loop ⟨[true],1,[.slot 1 (.hb 0 0),.slot 5 (.sc (.int .i64))],[]⟩ (.seq (aQ (.cond .leaf .leaf)) (.cut ⟨[true],1,[.slot 1 (.hb 0 0)],[(5,true)]⟩ (.block (aQ (.cut ⟨[true,true],2,[.slot 1 (.hb 0 0),.slot 108 (.sc (.bool))],[(5,true)]⟩ (.txt [Al,Al,Al,Al,Al,Al,Al,Al,⟨[],true,[]⟩,Al,Al,Al,Al,Al,⟨[],true,[]⟩,Al,Al,Al,Al,Al,⟨[],true,[]⟩]) (.cond (aQ .leaf) .leaf)))) (.txt [])))))) (aQ .leaf)))))
theorem Se (σ:Hp) (e1:aA) (z0 p1:Nat) (r1:aA) (k1 t1:Nat) (x1 z1 y1:Int) (R:aB) (h:Jl σ e1 z0 p1 r1 k1 t1 x1 z1 y1 R):Af prog 79 #[(.agg #[aN e1 z0 p1,aN r1 k1 t1,aD x1,aD z1,aD y1])] σ R:=
 Ae D1 So Tryz.func79 rfl (h:=h)
def PG (σ:Hp) (set load:Int) (R:aB):Prop:=
 wk .u64 (load) (fun n1=>(0<=n1/\wk .i64 (((BitVec.ofInt (IntKind.bits .i64) (Int.fdiv set (2^(min (n1:Int).toNat (IntKind.bits .i64)))) &&& BitVec.ofInt (IntKind.bits .i64) 1).toNat:Int)) (fun n2=>
  rt σ R (.bool (decide (n2=1))))))
def U3:MAn:=(aQ (aQ .leaf))
theorem UY (σ:Hp) (set load:Int) (R:aB) (h:PG σ set load R):Af prog 278 #[aD set,aD load] σ R:=
 Ae D1 U3 Tryz.func278 rfl (h:=h)
def Jf (σ:Hp) (e1:aA) (z0 _:Nat) (_:aA) (_ _:Nat) (_ _ _ board top:Int) (R:aB):Prop:=
 aH (fun n4 σ2=>rt σ2 R (.bool (decide (n4=top)))) (fun J3=>
  ∃ I7:Nat->Int->Hp->Prop,(∃ n80,I7 n80 board σ)/\∀ n8 n9 s6,I7 n8 n9 s6->∀ _:Nat->Value,bc (decide (top<n9)) (ix e1 z0 n9 4 (fun b10 a11=>
  ldI s6 .i64 b10 a11 (fun n12=>bk s6 n8 (fun m13 s14=>I7 m13 n12 s14)))) (J3 n9 s6))
def Rp:MAn:=(aQ (.cut ⟨[true],1,[.slot 1 (.sc (.int .i64))],[(2,true)]⟩ (.block (.loop ⟨[true],1,[.slot 1 (.sc (.int .i64)),.slot 3 (.hb 0 0)],[(2,true)]⟩ (.seq (aQ (.cond .leaf .leaf)) (.block (.txt []))))) (aQ .leaf)))
theorem Rh (σ:Hp) (e1:aA) (z0 p1:Nat) (r1:aA) (k1 t1:Nat) (x1 z1 y1 board top:Int) (R:aB) (h:Jf σ e1 z0 p1 r1 k1 t1 x1 z1 y1 board top R):Af prog 279 #[(.agg #[aN e1 z0 p1,aN r1 k1 t1,aD x1,aD z1,aD y1]),aD board,aD top] σ R:=
 Ae D1 Rp Tryz.func279 rfl (h:=h)
def GH (σ:Hp) (e1:aA) (z0 p1:Nat) (r1:aA) (k1 t1:Nat) (x1 z1 y1 set board phase:Int) (R:aB):Prop:=
 aH (fun n4 σ2=>rt σ2 R (aD n4)) (fun J3=>∃ I7:Nat->Int->Int->Hp->Prop,(∃ n80,I7 n80 0 0 σ) /\
  ∀ n8 n9 n10 s6,I7 n8 n9 n10 s6->∀ _:Nat->Value,bc (decide (n10<(k1:Int))) (aH (fun n14 s12=>wk .i64 (n10+1) (fun n15=>bk s12 n8 (fun m16 s17=>I7 m16 n14 n15 s17))) (fun J13=>
  ix r1 k1 n10 4 (fun b18 a19=>ldI s6 .i64 b18 a19 (fun n20=>ldI s6 .i64 b18 (a19+1) (fun n21=>
  ldI s6 .i64 b18 (a19+2) (fun n22=>ldI s6 .i64 b18 (a19+3) (fun _=>aG (fun t27 s25=>bc t27 (wk .i64 (n9+n22) (fun n28=>J13 n28 s25)) (J13 n9 s25)) (fun J26=>aC 278 #[aD set,aD n10] s6 (aI fun t31 s30=>(bc t31 (bc (decide (n21=phase)) (bc (decide (board<0)) (J26 true s30) (aC 279 #[(.agg #[aN e1 z0 p1,aN r1 k1 t1,aD x1,aD z1,aD y1]),aD n20,aD board] s30 (aI fun t34 s33=>(J26 t34 s33)))) (J26 false s30)) (J26 false s30))))))))))) (J3 n9 s6))
def Bz:OA:=⟨[],false,[]⟩
def OS:MAn:=(aQ (aQ (.cut ⟨[true],1,[.slot 9 (.sc (.int .i64))],[]⟩ (aQ (.block (.loop ⟨[true],1,[.slot 4 (.hb 0 0),.slot 9 (.sc (.int .i64)),.slot 10 (.sc (.int .i64))],[(1,true),(2,true),(3,true)]⟩ (.seq (aQ (.cond .leaf .leaf)) (.cut ⟨[true],1,[.slot 4 (.hb 0 0),.slot 9 (.sc (.int .i64))],[(1,true),(2,true),(3,true),(10,true)]⟩ (.block (aQ (.cut ⟨[true,true],2,[.slot 4 (.hb 0 0),.slot 11 (.hb 1 0),.slot 43 (.sc (.bool))],[(1,true),(2,true),(3,true),(9,true),(10,true)]⟩ (.txt [Bz,Bz,Bz,⟨[],true,[]⟩,Bz,Bz,Bz,Bz,Bz,⟨[],true,[]⟩,Bz,Bz,⟨[],true,[]⟩]) (.cond (.txt []) .leaf)))) (.txt [])))))) (aQ .leaf))))
theorem O5 (σ:Hp) (e1:aA) (z0 p1:Nat) (r1:aA) (k1 t1:Nat) (x1 z1 y1 set board phase:Int) (R:aB) (h:GH σ e1 z0 p1 r1 k1 t1 x1 z1 y1 set board phase R):Af prog 252 #[(.agg #[aN e1 z0 p1,aN r1 k1 t1,aD x1,aD z1,aD y1]),aD set,aD board,aD phase] σ R:=
 Ae D1 OS Tryz.func252 rfl (h:=h)
def IG (σ:Hp) (e1:aA) (z0 _:Nat) (_:aA) (_ _:Nat) (x1 _ _ board:Int) (R:aB):Prop:=
 bc (decide (board<0)) (rt σ R (aD x1)) (ix e1 z0 board 4 (fun b1 a2=>
  ldI σ .i64 b1 (a2+1) (fun n3=>rt σ R (aD n3))))
def Sp:MAn:=(aQ (.seq (aQ (.cond (aQ .leaf) .leaf)) (aQ .leaf)))
theorem RJ (σ:Hp) (e1:aA) (z0 p1:Nat) (r1:aA) (k1 t1:Nat) (x1 z1 y1 board:Int) (R:aB) (h:IG σ e1 z0 p1 r1 k1 t1 x1 z1 y1 board R):Af prog 253 #[(.agg #[aN e1 z0 p1,aN r1 k1 t1,aD x1,aD z1,aD y1]),aD board] σ R:=
 Ae D1 Sp Tryz.func253 rfl (h:=h)
def Kw (σ:Hp) (e1:aA) (z0 p1:Nat) (r1:aA) (k1 t1:Nat) (x1 z1 y1 set board:Int) (R:aB):Prop:=
 aF (fun σ2=>rt σ2 R (.bool false)) (fun J3=>∃ I6:Nat->Int->Hp->Prop,(∃ n70,I6 n70 0 σ) /\
  ∀ n7 n8 s5,I6 n7 n8 s5->∀ _:Nat->Value,bc (decide (n8<3)) (aC 252 #[(.agg #[aN e1 z0 p1,aN r1 k1 t1,aD x1,aD z1,aD y1]),aD set,aD board,aD n8] s5 (aJ fun n11 s10=>((Hp.Sub s5 s10/\aC 253 #[(.agg #[aN e1 z0 p1,aN r1 k1 t1,aD x1,aD z1,aD y1]),aD board] s10 (aJ fun n14 s13=>(bc (decide (n14<n11)) (rt s13 R (.bool true)) (wk .i64 (n8+1) (fun n15=>
  bk s13 n7 (fun m16 s17=>I6 m16 n15 s17))))))))) (J3 s5))
def BW:OA:=⟨[],false,[]⟩
def Tv:MAn:=(aQ (.cut ⟨[true],1,[],[]⟩ (aQ (.block (.loop ⟨[true],1,[.slot 3 (.hb 0 0),.slot 7 (.sc (.int .i64))],[(1,true),(2,true)]⟩ (.seq (aQ (.cond .leaf .leaf)) (.seq (.block (.seq (.plan [7] (tkVR4 4 0 BW (.take 5 BW (.take 6 BW (.alt 4 true BW (.alt 7 false BW (.take 8 BW .done) .done) .done))))) (.cond (aQ .leaf) .leaf))) (.txt [])))))) (aQ .leaf)))
theorem Tx (σ:Hp) (e1:aA) (z0 p1:Nat) (r1:aA) (k1 t1:Nat) (x1 z1 y1 set board:Int) (R:aB) (h:Kw σ e1 z0 p1 r1 k1 t1 x1 z1 y1 set board R):Af prog 201 #[(.agg #[aN e1 z0 p1,aN r1 k1 t1,aD x1,aD z1,aD y1]),aD set,aD board] σ R:=
 Ae D1 Tv Tryz.func201 rfl (h:=h)
def FU (σ:Hp) (e1:aA) (z0 p1:Nat) (r1:aA) (k1 t1:Nat) (x1 z1 y1 set:Int) (R:aB):Prop:=
 aC 79 #[(.agg #[aN e1 z0 p1,aN r1 k1 t1,aD x1,aD z1,aD y1])] σ (aJ fun n3 σ2=>(bc (!decide (n3=0)) (rt σ2 R (aD n3)) (wk .u64 ((k1:Int)) (fun n4=>
  (0<=n4/\wk .i64 (1*2^(min (n4:Int).toNat (IntKind.bits .i64))) (fun n5=>wk .i64 (n5-1) (fun n6=>
  aC 139 #[aD set,aD 0,aD n6] σ2 (aI fun t9 s8=>(bc (!t9) (rt s8 R (aD 1)) (rt s8 R (aD 0)))))))))))
def N5:MAn:=(aQ (.seq (aQ (aQ (.cond (aQ .leaf) .leaf))) (.seq (aQ (.cond (aQ .leaf) .leaf)) (aQ .leaf))))
theorem NR (σ:Hp) (e1:aA) (z0 p1:Nat) (r1:aA) (k1 t1:Nat) (x1 z1 y1 set:Int) (R:aB) (h:FU σ e1 z0 p1 r1 k1 t1 x1 z1 y1 set R):Af prog 143 #[(.agg #[aN e1 z0 p1,aN r1 k1 t1,aD x1,aD z1,aD y1]),aD set] σ R:=
 Ae D1 N5 Tryz.func143 rfl (h:=h)
def Lg (σ:Hp) (e1:aA) (z0 p1:Nat) (r1:aA) (k1 t1:Nat) (x1 z1 y1 set:Int) (R:aB):Prop:=
 aF (fun σ2=>rt σ2 R (.tuple #[aD 0,.bool false])) (fun J3=>
  ∃ I6:Nat->Int->Hp->Prop,(∃ n70,I6 n70 (-1) σ)/\∀ n7 n8 s5,I6 n7 n8 s5->∀ _:Nat->Value,bc (decide (n8<(z0:Int))) (aC 201 #[(.agg #[aN e1 z0 p1,aN r1 k1 t1,aD x1,aD z1,aD y1]),aD set,aD n8] s5 (aI fun t11 s10=>(bc t11 (rt s10 R (.tuple #[aD n8,.bool true])) (wk .i64 (n8+1) (fun n12=>
  bk s10 n7 (fun m13 s14=>I6 m13 n12 s14)))))) (J3 s5))
def Tm:MAn:=(aQ (.cut ⟨[true],1,[],[]⟩ (aQ (.block (.loop ⟨[true],1,[.slot 2 (.hb 0 0),.slot 6 (.sc (.int .i64))],[(1,true)]⟩ (.seq (aQ (.cond .leaf .leaf)) (.seq (.block (aQ (.cond (aQ .leaf) .leaf))) (.txt [])))))) (aQ .leaf)))
theorem Tw (σ:Hp) (e1:aA) (z0 p1:Nat) (r1:aA) (k1 t1:Nat) (x1 z1 y1 set:Int) (R:aB) (h:Lg σ e1 z0 p1 r1 k1 t1 x1 z1 y1 set R):Af prog 144 #[(.agg #[aN e1 z0 p1,aN r1 k1 t1,aD x1,aD z1,aD y1]),aD set] σ R:=
 Ae D1 Tm Tryz.func144 rfl (h:=h)
def KR (σ:Hp) (e1:aA) (z0 p1:Nat) (r1:aA) (k1 t1:Nat) (x1 z1 y1 set:Int) (R:aB):Prop:=
 aC 143 #[(.agg #[aN e1 z0 p1,aN r1 k1 t1,aD x1,aD z1,aD y1]),aD set] σ (aJ fun n3 σ2=>(bc (!decide (n3=0)) (rt σ2 R (.tuple #[aD 0,.bool false,aD n3])) (aC 144 #[(.agg #[aN e1 z0 p1,aN r1 k1 t1,aD x1,aD z1,aD y1]),aD set] σ2 (fun v4 s5=>
  ∃ n6:Int,∃ t7:Bool,(v4=(.tuple #[aD n6,.bool t7])/\rt s5 R (.tuple #[aD n6,(.bool (!t7)),aD 0]))))))
def SX:MAn:=(aQ (.seq (aQ (aQ (.cond (aQ .leaf) .leaf))) (aQ (aQ .leaf))))
theorem SR (σ:Hp) (e1:aA) (z0 p1:Nat) (r1:aA) (k1 t1:Nat) (x1 z1 y1 set:Int) (R:aB) (h:KR σ e1 z0 p1 r1 k1 t1 x1 z1 y1 set R):Af prog 81 #[(.agg #[aN e1 z0 p1,aN r1 k1 t1,aD x1,aD z1,aD y1]),aD set] σ R:=
 Ae D1 SX Tryz.func81 rfl (h:=h)
end Go.Proofs.YtoelhdjloaknbaaGreat
