/- Parts: Wb. -/
import Derived.Test.YtmaagpbjahjmhaaGreatDoorQ0
import Derived.Test.YtmaagpbjahjmhaaGreatDoorQ1
import Derived.Lib.Hide
import Derived.LoopN
set_option maxHeartbeats 800000
set_option maxRecDepth 100000
namespace Go.Proofs.YtmaagpbjahjmhaaGreatDoor
open Go.RowKit
@[go_sem] theorem zQe (a b:BitVec 64):bits .or .u64 (a.toNat:Int) (b.toNat:Int)=((orw a b).toNat:Int):=by
 rw[u64_or_nat _ _ a.isLt b.isLt,orw,BitVec.toNat_or]
@[go_sem] theorem zQa (a b:BitVec 64):bits .and .u64 (a.toNat:Int) (b.toNat:Int)=((zPY a b).toNat:Int):=by
 rw[u64_and_nat _ _ a.isLt b.isLt,zPY,BitVec.toNat_and]
@[go_sem] theorem zQO (a:BitVec 64):bits .xor .u64 IntKind.u64.max (a.toNat:Int)=((zPm a).toNat:Int):=by
 have h:bits .xor .u64 ((18446744073709551615:Nat):Int) (a.toNat:Int)=((18446744073709551615 ^^^ a.toNat:Nat):Int):=u64_xor_nat _ _ (by omega) a.isLt
 have e:IntKind.u64.max=((18446744073709551615:Nat):Int):=rfl
 rw[e,h]
 congr 1
theorem zIw (n:Nat) (h:n<64):IntKind.u64.wrap (2 ^ n)=((zP8 n).toNat:Int):=by
 have h2:(2:Nat) ^ n<2 ^ 64:=Nat.pow_lt_pow_right (by omega) h
 have h3:(zP8 n).toNat=2 ^ n:=by
  simp only[zP8,BitVec.toNat_shiftLeft,BitVec.toNat_ofNat,Nat.shiftLeft_eq]
  rw[Nat.mod_eq_of_lt (by simpa using h2)];simp
 have h4:((2:Int) ^ n)=((2 ^ n:Nat):Int):=by simp
 rw[h3,h4,IntWalk.u64_in _ ⟨by omega,by omega⟩]
theorem zF4 (a:Nat) (ha:a<9223372036854775808):(BitVec.ofInt 64 (a:Int)).toNat=a:=by
 rw[BitVec.ofInt_natCast,BitVec.toNat_ofNat];exact Nat.mod_eq_of_lt (by omega)
theorem zM7 (a:Nat) (ha:a<65536):bits .and .i64 (a:Int) 63=((a % 64:Nat):Int):=by
 have hx:a &&& 63=a % 64:=Nat.and_two_pow_sub_one_eq_mod a 6
 show IntKind.i64.wrap ((BitVec.ofInt 64 (a:Int) &&& BitVec.ofInt 64 ((63:Nat):Int)).toNat:Int)=_
 rw[BitVec.toNat_and,zF4 a (by omega),zF4 63 (by omega),hx]
 exact IntWalk.i64_in _ (by omega)
abbrev zDQ (c:Cls):Value:= .agg #[.int .u64 c.w0.toNat,.int .u64 c.w1.toNat,.int .u64 c.w2.toNat,.int .u64 c.w3.toNat]
def zA5 (c:Cls):Array Value:= #[.int .u64 c.w0.toNat,.int .u64 c.w1.toNat,.int .u64 c.w2.toNat,.int .u64 c.w3.toNat]
theorem zAd {w:World} {B T:Nat} {c:Cls} (h:w.heap[B]?=some (.cells (zA5 c) T (0,0))) (j:Nat) (hj:j<4):w.cell? ⟨B,j,none⟩=some (.int .u64 (c.word j).toNat):=by
 rw[zQ6 w B j _ T (0,0) h]
 match j,hj with
 |0,_=>rfl
 |1,_=>rfl
 |2,_=>rfl
 |3,_=>rfl
theorem zFA {w:World} {o:Obj} {n:Nat} (h:n=w.heap.size):(w.alloc o).heap[n]?=some o:=by subst h;exact zQ4 w o
theorem zAF {w:World} {B T:Nat} {cs:Array Value} (h:w.heap[B]?=some (.cells cs T (0,0))) (j:Nat):w.frozen? ⟨B,j,none⟩=false:=by
 simp[World.frozen?,h]
theorem zEu {w:World} {B T:Nat} {c:Cls} (h:w.heap[B]?=some (.cells (zA5 c) T (0,0))) (j:Nat) (hj:j<4) (v:BitVec 64):
  (w.setCell ⟨B,j,none⟩ (.int .u64 v.toNat)).heap[B]?=some (.cells (zA5 (c.set j v)) T (0,0)):=by
 simp only[World.setCell,Array.getElem?_modify,h,if_true,Option.map_some]
 match j,hj with
 |0,_=>rfl
 |1,_=>rfl
 |2,_=>rfl
 |3,_=>rfl
theorem zCZ (a b:Cls) (w:World):
  Calls Tryz.prog 247 #[zDQ a,zDQ b] w fun e w'=>e= .returned (zDQ (a.or b))∧Below w.heap.size w w':=by
 obtain⟨a0,a1,a2,a3⟩:=a
 obtain⟨b0,b1,b2,b3⟩:=b
 go_enter Tryz.func247,Tryz.ntmps247
 go_wp2_with fail
 refine wp_loop_rounds 5 ?_
 iterate 4
  rw[rounds_succ]
  go_wp2_with fail
  refine zAA (X:=none) 8 [] [0,1,2,3,4,5,6,7] (by kernel_rfl) (by kernel_rfl) rfl (fun _ _ _ _ _ h=>h) ?_
  simp only[zAK,zAC,zAD,zAB,List.getD_cons_zero,List.getD_cons_succ,List.drop_succ_cons,List.drop_zero]
  repeat (go_big_quiet_step (fail))
  refine wpQuiet_nil ?_
  go_wp2_with fail
 rw[rounds_succ]
 go_wp2_with fail
 exact zRQ (v:=zDQ (Cls.or ⟨a0,a1,a2,a3⟩ ⟨b0,b1,b2,b3⟩)) (by simp[results,Tryz.results247,go_sem,Cls.or]) rfl ⟨rfl,(by repeat (first|exact zQs _ _|assumption|refine zRK ?_|refine zRI ?_ (by first|(simp;done)|(simp;omega)|omega) _|refine zRJ ?_ (by first|(simp;done)|(simp;omega)|omega) _))⟩
theorem zGO (a b:Cls) (w:World):
  Calls Tryz.prog 283 #[zDQ a,zDQ b] w fun e w'=>e= .returned (zDQ (a.and b))∧Below w.heap.size w w':=by
 obtain⟨a0,a1,a2,a3⟩:=a
 obtain⟨b0,b1,b2,b3⟩:=b
 go_enter Tryz.func283,Tryz.ntmps283
 go_wp2_with fail
 refine wp_loop_rounds 5 ?_
 iterate 4
  rw[rounds_succ]
  go_wp2_with fail
  refine zAA (X:=none) 8 [] [0,1,2,3,4,5,6,7] (by kernel_rfl) (by kernel_rfl) rfl (fun _ _ _ _ _ h=>h) ?_
  simp only[zAK,zAC,zAD,zAB,List.getD_cons_zero,List.getD_cons_succ,List.drop_succ_cons,List.drop_zero]
  repeat (go_big_quiet_step (fail))
  refine wpQuiet_nil ?_
  go_wp2_with fail
 rw[rounds_succ]
 go_wp2_with fail
 exact zRQ (v:=zDQ (Cls.and ⟨a0,a1,a2,a3⟩ ⟨b0,b1,b2,b3⟩)) (by simp[results,Tryz.results283,go_sem,Cls.and]) rfl ⟨rfl,(by repeat (first|exact zQs _ _|assumption|refine zRK ?_|refine zRI ?_ (by first|(simp;done)|(simp;omega)|omega) _|refine zRJ ?_ (by first|(simp;done)|(simp;omega)|omega) _))⟩
theorem zE6 (a:Cls) (w:World):
  Calls Tryz.prog 248 #[zDQ a] w fun e w'=>e= .returned (zDQ a.not)∧Below w.heap.size w w':=by
 obtain⟨a0,a1,a2,a3⟩:=a
 go_enter Tryz.func248,Tryz.ntmps248
 go_wp2_with fail
 refine wp_loop_rounds 5 ?_
 iterate 4
  rw[rounds_succ]
  go_wp2_with fail
 rw[rounds_succ]
 go_wp2_with fail
 exact zRQ (v:=zDQ (Cls.not ⟨a0,a1,a2,a3⟩)) (by simp[results,Tryz.results248,go_sem,Cls.not]) rfl ⟨rfl,(by repeat (first|exact zQs _ _|assumption|refine zRK ?_|refine zRI ?_ (by first|(simp;done)|(simp;omega)|omega) _|refine zRJ ?_ (by first|(simp;done)|(simp;omega)|omega) _))⟩
theorem zNh {k hi:Nat} {c:Cls} (h:k≤hi):(List.range' k (hi+1 - k)).foldl Cls.add c=(List.range' (k+1) (hi+1 - (k+1))).foldl Cls.add (c.add k):=by
 rw[show hi+1 - k=(hi+1 - (k+1))+1 from by omega,List.range'_succ,List.foldl_cons]
theorem zID (lo hi:Nat) (hlo:lo<256) (hhi:hi<256) (w:World):
  Calls Tryz.prog 229 #[.int .u8 lo,.int .u8 hi] w fun e w'=>e= .returned (zDQ (Cls.range lo hi))∧Below w.heap.size w w':=by
 go_enter Tryz.func229,Tryz.ntmps229
 go_wp2_with fail
 go_loopw [6] (fun x wr=> ∃(k:Nat) (c:Cls),k≤256∧x= .int .i64 k∧Below w.heap.size w wr∧Hid (Cls.range lo hi=(List.range' k (hi+1 - k)).foldl Cls.add c)∧
   wr.heap[w.heap.size]?=some (.cells (zA5 Cls.zero) 99 (0,0))∧
   wr.heap[w.heap.size+1]?=some (.cells (zA5 c) 99 (0,0))) (fun x _=>256 - (intOf x).toNat)
 case atStart=>exact⟨lo,Cls.zero,by omega,rfl,(by repeat (first|exact zQs _ _|assumption|refine zRK ?_|refine zRI ?_ (by first|(simp;done)|(simp;omega)|omega) _|refine zRJ ?_ (by first|(simp;done)|(simp;omega)|omega) _)),rfl,(zQ5 _ _ (by simp)).trans (zQ4 _ _),zFA (by simp)⟩
 case round=>
  obtain⟨k,c,hk,rfl,hbe,HS,hb0,hb1⟩:=hrel
  have hz:w.heap.size+1<wr.heap.size:=(zQz.1 hb1).1
  by_cases hlt:k≤hi
  ·have hcell:=zAd hb1 (k / 64) (by omega)
   have hfz:=zAF hb1 (k / 64)
   have hsh:=zIw (k % 64) (by omega)
   have hand:=zM7 k (by omega)
   have HB0:=zQr hb0
   have HB1:=zQr hb1
   clear hb0 hb1
   go_wp2_with fail
   refine zAA (X:=none) 9 [] [0,1,2,3,4,5,6,7,8] (by kernel_rfl) (by kernel_rfl) rfl (fun _ _ _ _ _ h=>h) ?_
   simp only[zAK,zAC,zAD,zAB,List.getD_cons_zero,List.getD_cons_succ,List.drop_succ_cons,List.drop_zero]
   repeat (go_big_quiet_step (fail))
   refine wpQuiet_nil ?_
   go_wp2_with fail
   go_roundw
   case rel=>exact⟨k+1,c.add k,by omega,by go_num,(zRJ (p:=⟨w.heap.size+1,k / 64,none⟩) (by repeat (first|exact zQs _ _|assumption|refine zRK ?_|refine zRI ?_ (by first|(simp;done)|(simp;omega)|omega) _|refine zRJ ?_ (by first|(simp;done)|(simp;omega)|omega) _)) (by show w.heap.size≤w.heap.size+1;omega) _).drew,HS.out.trans (zNh hlt),(zQ1 _ _ _ _ (by show w.heap.size≠w.heap.size+1;omega)).trans HB0.out,zEu HB1.out _ (by omega) _⟩
   case measure=>simp[intOf];omega
  ·have g0:=zAd hb1 0 (by omega)
   have g1:=zAd hb1 1 (by omega)
   have g2:=zAd hb1 2 (by omega)
   have g3:=zAd hb1 3 (by omega)
   have z0:=zAd hb0 0 (by omega)
   have z1:=zAd hb0 1 (by omega)
   have z2:=zAd hb0 2 (by omega)
   have z3:=zAd hb0 3 (by omega)
   have f0:=zAF hb0
   simp only[Cls.word]at g0 g1 g2 g3 z0 z1 z2 z3
   clear hb0 hb1
   go_wp2_with fail
   refine zRQ (v:=zDQ c) (by simp[results,Tryz.results229,go_sem, *]) rfl ⟨?_,(by repeat (first|exact zQs _ _|assumption|refine zRK ?_|refine zRI ?_ (by first|(simp;done)|(simp;omega)|omega) _|refine zRJ ?_ (by first|(simp;done)|(simp;omega)|omega) _))⟩
   rw[HS.out,show hi+1 - k=0 from by omega]
   rfl
theorem zBB (lo hi:Int) (h0:0≤lo) (h1:lo<256) (h2:0≤hi) (h3:hi<256) (w:World):
  Calls Tryz.prog 229 #[.int .u8 lo,.int .u8 hi] w fun e w'=>e= .returned (zDQ (Cls.range lo.toNat hi.toNat))∧Below w.heap.size w w':=by
 obtain⟨a,rfl⟩:=Int.eq_ofNat_of_zero_le h0
 obtain⟨b,rfl⟩:=Int.eq_ofNat_of_zero_le h2
 exact zID a b (by omega) (by omega) w
theorem zOT (a:Nat) (ha:a<256):bits .and .u8 (a:Int) 63=((a % 64:Nat):Int):=by
 have hx:a &&& 63=a % 64:=Nat.and_two_pow_sub_one_eq_mod a 6
 have h1:(BitVec.ofInt 64 (a:Int)).toNat=a:=zF4 a (by omega)
 show IntKind.u8.wrap ((BitVec.ofInt 8 (a:Int) &&& BitVec.ofInt 8 ((63:Nat):Int)).toNat:Int)=_
 rw[BitVec.toNat_and,BitVec.ofInt_natCast,BitVec.ofInt_natCast,BitVec.toNat_ofNat,BitVec.toNat_ofNat,Nat.mod_eq_of_lt (by omega),Nat.mod_eq_of_lt (by omega),hx]
 exact IntWalk.u8_in _ (by omega)
theorem zQC {l:List Nat} {k:Nat} {c:Cls} (h:k<l.length):(l.drop k).foldl Cls.add c=(l.drop (k+1)).foldl Cls.add (c.add (l.getD k 0)):=by
 rw[List.drop_eq_getElem_cons h,List.foldl_cons]
 simp[List.getD_eq_getElem?_getD,h]
theorem zPl (l:List Nat) (sb so cap:Nat) (hl: ∀i,i<l.length→l.getD i 0<256) (hll:l.length≤65536) (w:World)
  (hc: ∀i,i<l.length→w.cell? ⟨sb,so+i,none⟩=some (.int .u8 (l.getD i 0:Nat))) (hsb:sb<w.heap.size):
  Calls Tryz.prog 249 #[.slice (some ⟨sb,so,none⟩) l.length cap] w fun e w'=>e= .returned (zDQ (Cls.of l))∧Below w.heap.size w w':=by
 go_enter Tryz.func249,Tryz.ntmps249
 go_wp2_with fail
 go_loopw [8] (fun x wr=> ∃(k:Nat) (c:Cls),k≤l.length∧x= .int .i64 k∧Below w.heap.size w wr∧Hid (Cls.of l=(l.drop k).foldl Cls.add c)∧
   wr.heap[w.heap.size]?=some (.cells (zA5 Cls.zero) 99 (0,0))∧
   wr.heap[w.heap.size+1]?=some (.cells (zA5 c) 99 (0,0))) (fun x _=>l.length - (intOf x).toNat)
 case atStart=>exact⟨0,Cls.zero,by omega,rfl,(by repeat (first|exact zQs _ _|assumption|refine zRK ?_|refine zRI ?_ (by first|(simp;done)|(simp;omega)|omega) _|refine zRJ ?_ (by first|(simp;done)|(simp;omega)|omega) _)),rfl,(zQ5 _ _ (by simp)).trans (zQ4 _ _),zFA (by simp)⟩
 case round=>
  obtain⟨k,c,hk,rfl,hbe,HS,hb0,hb1⟩:=hrel
  have hz:w.heap.size+1<wr.heap.size:=(zQz.1 hb1).1
  by_cases hlt:k<l.length
  ·have hb256:=hl k hlt
   have hck:=(hbe.cell (p:=⟨sb,so+k,none⟩) hsb).trans (hc k hlt)
   have HON:=zQr (zQC (c:=c) hlt)
   generalize l.getD k 0=b at*
   have hcell:=zAd hb1 (b / 64) (by omega)
   have hfz:=zAF hb1 (b / 64)
   have hsh:=zIw (b % 64) (by omega)
   have hand:=zOT b hb256
   have HB0:=zQr hb0
   have HB1:=zQr hb1
   clear hb0 hb1 hc hl
   go_wp2_with fail
   go_roundw
   case rel=>exact⟨k+1,c.add b,by omega,by go_num,(zRJ (p:=⟨w.heap.size+1,b / 64,none⟩) (by repeat (first|exact zQs _ _|assumption|refine zRK ?_|refine zRI ?_ (by first|(simp;done)|(simp;omega)|omega) _|refine zRJ ?_ (by first|(simp;done)|(simp;omega)|omega) _)) (by show w.heap.size≤w.heap.size+1;omega) _),HS.out.trans HON.out,(zQ1 _ _ _ _ (by show w.heap.size≠w.heap.size+1;omega)).trans HB0.out,zEu HB1.out _ (by omega) _⟩
   case measure=>simp[intOf];omega
  ·have g0:=zAd hb1 0 (by omega)
   have g1:=zAd hb1 1 (by omega)
   have g2:=zAd hb1 2 (by omega)
   have g3:=zAd hb1 3 (by omega)
   have z0:=zAd hb0 0 (by omega)
   have z1:=zAd hb0 1 (by omega)
   have z2:=zAd hb0 2 (by omega)
   have z3:=zAd hb0 3 (by omega)
   have f0:=zAF hb0
   simp only[Cls.word]at g0 g1 g2 g3 z0 z1 z2 z3
   clear hb0 hb1 hc hl
   go_wp2_with fail
   refine zRQ (v:=zDQ c) (by simp[results,Tryz.results249,go_sem, *]) rfl ⟨?_,(by repeat (first|exact zQs _ _|assumption|refine zRK ?_|refine zRI ?_ (by first|(simp;done)|(simp;omega)|omega) _|refine zRJ ?_ (by first|(simp;done)|(simp;omega)|omega) _))⟩
   rw[HS.out,List.drop_of_length_le (by omega)]
   rfl
end Go.Proofs.YtmaagpbjahjmhaaGreatDoor
