/- Part of a claim. -/
import Derived.Test.YtnmeejofpkhlkaaGreatDoorE13
import Derived.Lib.TrailingZeros
import Derived.Laws.Bits64b
set_option linter.all false
set_option maxRecDepth 100000
set_option maxHeartbeats 12800000
namespace Go.Proofs.YtnmeejofpkhlkaaGreatDoor
open Go.RowKit.Below renaming refl->F9
open Go renaming World->FW
open Nat renaming gcd->Gv,mul_le_mul_right->H8
open Go.Proofs.Tryz renaming prog->FY
open Lib renaming hid → Ac
open Go.RowKit
def Bd (w:FW):Prop:=∀ j,j < Lib.deBruijn64tab.length->w.cell? ⟨0,j,none⟩=some (.int .u8 (Lib.deBruijn64tab.getD j 0))
theorem Bd.lt {w:FW} (h:Bd w):0 < w.heap.size:=World.block_lt_of_cell? w _ (h 0 aA)
theorem Bd.below {w w':FW} {B:Nat} (h:Bd w) (hB:0 < B) (hb:Below B w w'):Bd w':=λj hj=>(hb.cell (p:=⟨0,j,none⟩) hB).trans (h j hj)
theorem Bd.on {w w':FW} (h:Bd w) (hb:Below w.heap.size w w'):Bd w':=h.below h.lt hb
theorem an2 (x a:Nat) (hx:x < 18446744073709551616) (hx0:x≠0) (hlow:x &&& (18446744073709551616 - x)=a) :
  IntKind.u64.wrap (bits BinOp.and IntKind.u64 (x:Int) (IntKind.u64.wrap (-(x:Int)))*285870213051353865) / 288230376151711744=((a*285870213051353865 % 18446744073709551616 / 288230376151711744:Nat):Int):=by
 have e1:IntKind.u64.wrap (-(x:Int))=((18446744073709551616 - x:Nat):Int):=by rw[IntKind.wrap_u64];omega
 rw[e1,bits_and_u64_nat x _ hx EN,hlow,IntKind.wrap_u64];omega
theorem am5 (x k idx:Nat) (w:FW) (hx0:((x:Int)==0)=false)
  (key:IntKind.u64.wrap (bits BinOp.and IntKind.u64 (x:Int) (IntKind.u64.wrap (-(x:Int)))*285870213051353865) / 288230376151711744=(idx:Int))
  (hi:idx < 64) (hk:k < 64) (hcell:w.cell? ⟨0,idx,none⟩=some (.int .u8 k)) :
  Calls FY 179 #[.int .u64 x] w λe w'=>e = .returned (.int .i64 k)/\w=w':=by
 go_in;go_wp2_with (simp only[key])
 go_ret;exact⟨rfl,rfl⟩
theorem ahI (x:Nat) (hx:x < 18446744073709551616) (hx0:x≠0) (w:FW) (hT:Bd w) :
  Calls FY 179 #[.int .u64 x] w λe w'=>∃ k m:Nat,e = .returned (.int .i64 k)/\w=w'/\x=2 ^ k*(2*m+1)/\k < 64:=by
 obtain⟨hlow,hk⟩:=Lib.lowest_bit 64 x hx0 hx;obtain⟨hi,htab⟩:=Lib.deBruijn64_at _ hk;have hcell:=hT _ hi;rw[htab] at hcell;obtain⟨m,hm,_⟩:=Lib.ctzFrom_spec 64 x EN hx;have e:Lib.ctz 64 x=Lib.ctzFrom 64 x:=by simp[Lib.ctz,hx0]
 rw[<-e] at hm;refine(am5 x _ _ w aG (an2 x _ hx hx0 hlow) hi hk hcell).mono ?_;rintro e' w' ⟨rfl,rfl⟩;exact⟨_,m,rfl,rfl,hm,hk⟩
theorem ajc {k n:Nat} (hk:k < 64):((2 ^ k*n:Nat):Int) / ((2 ^ k:Nat):Int)=(n:Int):=by
 rw[<-Int.natCast_ediv,Nat.mul_div_cancel_left _ (Nat.pow_pos aA)]
theorem agf (w:FW) (a b:Nat) (ha:a < 1000000000000000000) (hb:b < 1000000000000000000) (ha0:a≠0) (hb0:b≠0) (hT:Bd w) :
  Calls FY 154 #[.int .u64 (a:Int),.int .u64 (b:Int)] w (Ret w λv _=>v = .int .u64 (Gv a b:Int)):=by
 have ea:((a:Int)==0)=false:=beq_false_of_ne EN;have eb:((b:Int)==0)=false:=beq_false_of_ne EN;have hor0:a ||| b≠0:=by
  intro h;have:=Nat.left_le_or (n:=a) (m:=b);omega
 have hor:a ||| b < 18446744073709551616:=Nat.or_lt_two_pow (n:=64) EN EN
 go_in;go_wp2_with fail
 rw[show bits BinOp.or IntKind.u64 (a:Int) (b:Int)=((a ||| b:Nat):Int) from bits_or_u64_nat a b EN EN];refine(ahI _ hor hor0 w hT).mono ?_;rintro e w' ⟨s,r,rfl,rfl,hs,hs64⟩;have HS:=Ac hs;clear hs;dsimp only;go_wp2_with fail
 refine(ahI a EN ha0 w hT).mono ?_;rintro e w' ⟨i,m,rfl,rfl,hi,hi64⟩;have HI:=Ac hi;clear hi;dsimp only;go_wp2_with fail
 have haq:(a:Int) / 2 ^ i=((2*m+1:Nat):Int):=by rw[HI.out];exact_mod_cast ajc hi64
 rw[haq];have hmb:2*m+1<=a:=by have h:=HI.out;have:1*(2*m+1)<=2 ^ i*(2*m+1):=H8 _ (Nat.pow_pos aA);omega
 have HG:=Ac (show ∀ (jj nn:Nat),b=2 ^ jj*(2*nn+1)->Gv (2*m+1) b*2 ^ s=Gv a b from λjj nn h=>amN HI.out h HS.out);clear haq;obtain⟨G,hG⟩:=FH (Gv (2*m+1) b);have HGG:=Ac hG;have HGO:=Ac hG;clear hG;go_loopw [0,1] (λav bv wr=>∃ x y:Nat,av = .int .u64 (x:Int)/\bv = .int .u64 (y:Int)/\(∃ q,x=2*q+1)/\x < 1000000000000000000/\y < 1000000000000000000/\G=Gv x y/\w=wr) (λav bv _=>(intOf av).toNat+(intOf bv).toNat)
 case atStart=>exact⟨2*m+1,b,rfl,rfl,⟨m,rfl⟩,EN,hb,HGG.out,rfl⟩
 case round =>
  clear HGG;obtain⟨x,y,rfl,rfl,hq,hx,hy,hg,rfl⟩:=hrel;have HQ:=Ac hq;have HGX:=Ac hg;have hx1:1<=x:=by obtain⟨q,hq⟩:=hq;omega
  clear hq hg;by_cases h0:y=0
  ·have HF:=Ac (show x=G by rw[HGX.out,h0,Nat.gcd_zero_right]);subst h0;obtain⟨j,n,hj⟩:∃ jj nn:Nat,b=2 ^ jj*(2*nn+1):=by
    obtain⟨n,h1,_⟩:=Lib.ctzFrom_spec 64 b EN EN;exact⟨_,n,h1⟩
   have hfin:x*2 ^ s=Gv a b:=by rw[HF.out,HGO.out];exact HG.out j n hj
   have hle:Gv a b<=a:=Nat.gcd_le_left _ EN;have HE:=Ac hfin;clear hj hfin;go_wp2
   go_ret;refine⟨_,rfl,F9 _ _,?_⟩;show Value.int .u64 (IntKind.u64.wrap ((x:Int)*2 ^ s))=_;rw[<-HE.out,IntKind.wrap_u64];have hx2:((x:Int)*2 ^ s)=((x*2 ^ s:Nat):Int):=aF;rw[hx2];have:=HE.out;congr 1;omega
  ·have hd:((y:Int) != 0)=true:=aG;go_wp2_with fail
   refine(ahI y EN h0 _ hT).mono ?_;rintro e w' ⟨k,n,rfl,rfl,hk,hk64⟩;have HK:=Ac hk;clear hk;have hyn:2*n+1<=y:=by have h:=HK.out;have:1*(2*n+1)<=2 ^ k*(2*n+1):=H8 _ (Nat.pow_pos aA);omega
   have hyq:(y:Int) / 2 ^ k=((2*n+1:Nat):Int):=by rw[HK.out];exact_mod_cast ajc hk64
   have HYQ:=Ac hyq; clear hyq;have HGN:=Ac (show G=Gv x (2*n+1) by
    obtain⟨q,hq⟩:=HQ.out;rw[HGX.out,hq,HK.out]; exact abI k q (2*n+1))
   obtain⟨z,hz⟩:=FH (2*n+1);have HZ:=Ac hz;rw[<-hz] at hyn HYQ HGN;clear hz;have hzx:z < 1000000000000000000:=EN;have HZO:=Ac (show ∃ q,z=2*q+1 from⟨n,HZ.out⟩);by_cases hlt:z < x
   ·have hd2:decide ((y:Int) / 2 ^ k < (x:Int))=true:=by rw[HYQ.out];exact Mc EN
    have HGE:=Ac (show G=Gv z (x - z) by rw[HGN.out,Nat.gcd_comm]; exact(Nat.gcd_sub_self_right (Nat.le_of_lt hlt)).symm);dsimp only;go_wp2_with fail
    rw[HYQ.out];refine⟨⟨z,x - z,rfl,?_,HZO.out,hzx,EN,HGE.out,trivial⟩,?_⟩
    ·congr 1; rw[IntKind.wrap_u64]; omega
    ·simp only[intOf];rw[IntKind.wrap_u64];omega
   ·have hd2:decide ((y:Int) / 2 ^ k < (x:Int))=false:=by rw[HYQ.out];exact L9 EN
    have HGE:=Ac (show G=Gv x (z - x) by rw[HGN.out]; exact(Nat.gcd_sub_self_right EN).symm);dsimp only;go_wp2_with fail
    rw[HYQ.out];refine⟨⟨x,z - x,rfl,?_,HQ.out,hx,EN,HGE.out,trivial⟩,?_⟩
    ·congr 1; rw[IntKind.wrap_u64]; omega
    ·simp only[intOf];rw[IntKind.wrap_u64];omega
theorem yR (w:FW) (a b:Nat) (ha:a < 1000000000000000000) (hb:b < 1000000000000000000) (hT:Bd w) :
  Calls FY 154 #[.int .u64 (a:Int),.int .u64 (b:Int)] w (Ret w λv _=>v = .int .u64 (Gv a b:Int)):=by
 by_cases ha0:a=0
 ·subst ha0;have HG:=Ac (Nat.gcd_zero_left b);go_in;go_wp2
  go_ret;exact⟨_,rfl,F9 _ _,by rw[HG.out]; rfl⟩
 by_cases hb0:b=0
 ·subst hb0;have HG:=Ac (Nat.gcd_zero_right a);have ea:((a:Int)==0)=false:=beq_false_of_ne EN;go_in;go_wp2
  go_ret;exact⟨_,rfl,F9 _ _,by rw[HG.out]; rfl⟩
 exact agf w a b ha hb ha0 hb0 hT
end Go.Proofs.YtnmeejofpkhlkaaGreatDoor
