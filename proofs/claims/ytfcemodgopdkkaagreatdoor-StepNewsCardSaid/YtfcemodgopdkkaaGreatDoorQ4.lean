/- Parts: Tc. -/
import Derived.Test.YtfcemodgopdkkaaGreatDoorQ3
import Derived.Laws.StructEq
import Derived.ChangeKeysEq
set_option maxHeartbeats 1600000
set_option maxRecDepth 100000
namespace Go.Proofs.YtfcemodgopdkkaaGreatDoor
open Go.RowKit
theorem zJx (b c d e b' c' d' e':Int) (w:World):
  (Op.equalIn 9999 125 (.agg #[.int .u64 b,.int .u64 c,.int .u64 d,.int .u64 e]) (.agg #[.int .u64 b',.int .u64 c',.int .u64 d',.int .u64 e'])).run Tryz.prog w= .ok (decide (b=b')&&decide (c=c')&&decide (d=d')&&decide (e=e')) w:=by
 obtain⟨i,hi⟩: ∃i,Tryz.prog.info? 123=some i:=Option.isSome_iff_exists.1 (by kernel_rfl)
 rw[run_equalIn_array w 9998 _ _ Tryz.underlying125 hi,show Tryz.prog.cellsOf 123=1 by kernel_rfl]
 simp[Op.eqItems,go_sem,List.range_succ]
 repeat' split
 all_goals simp_all
theorem zJs (a b c d e f g h i a' b' c' d' e' f' g' h' i':Int) (w:World):
  (binOp .neq 127 (.agg #[.int .i8 a,.int .u64 b,.int .u64 c,.int .u64 d,.int .u64 e,.int .i64 f,.int .i64 g,.int .i64 h,.int .i64 i]) (.agg #[.int .i8 a',.int .u64 b',.int .u64 c',.int .u64 d',.int .u64 e',.int .i64 f',.int .i64 g',.int .i64 h',.int .i64 i'])).run Tryz.prog w=
   .ok (.bool (!(decide (a=a')&&decide (b=b')&&decide (c=c')&&decide (d=d')&&decide (e=e')&&decide (f=f')&&decide (g=g')&&decide (h=h')&&decide (i=i')))) w:=by
 rw[run_neq_struct]
 have hcl:=zJx b c d e b' c' d' e' w
 simp[go_sem,hcl]
 by_cases hb:b=b'<;>by_cases hc:c=c'<;>by_cases hd:d=d'<;>by_cases he:e=e'<;>simp[hb,hc,hd,he]
 all_goals (repeat' split)
 all_goals simp_all
theorem zGb (x0 x1 x2 x3:BitVec 64):((⟨x0,x1,x2,x3⟩:Cls)==Cls.zero)=decide (x0.toNat=0∧x1.toNat=0∧x2.toNat=0∧x3.toNat=0):=by
 rw[Bool.eq_iff_iff,beq_iff_eq,decide_eq_true_eq,Cls.zero,Cls.mk.injEq]
 simp only[←BitVec.toNat_inj]
 rfl
theorem zAk (a b c d e f g h i:Int) (v:Bool) (hv:v=decide (a=0∧b=0∧c=0∧d=0∧e=0∧f=0∧g=0∧h=0∧i=0)) (w:World):
  (binOp .neq 127 (.agg #[.int .i8 a,.int .u64 b,.int .u64 c,.int .u64 d,.int .u64 e,.int .i64 f,.int .i64 g,.int .i64 h,.int .i64 i]) (.agg #[.int .i8 0,.int .u64 0,.int .u64 0,.int .u64 0,.int .u64 0,.int .i64 0,.int .i64 0,.int .i64 0,.int .i64 0])).run Tryz.prog w= .ok (.bool (!v)) w:=by
 rw[zJs,hv]
 congr 3
 rw[Bool.eq_iff_iff]
 simp[and_assoc]
theorem zGw (x:Nd) (w:World):Calls Tryz.prog 150 #[ndV x] w fun e w'=>e= .returned (.bool (zAg x))∧Below w.heap.size w w':=by
 obtain⟨op,⟨x0,x1,x2,x3⟩,xn,xmin,xmax,xk⟩:=x
 have hset:=zGb x0 x1 x2 x3
 by_cases h1:op=1
 ·subst h1
  by_cases hz:xn=0∧xmin=0∧xmax=0
  ·have hq:=zAk (0:Int) (0:Int) (0:Int) (0:Int) (0:Int) xn xmin xmax (0:Int) true (by rw[eq_comm,decide_eq_true_eq];omega)
   have HG:Hid (zAg ⟨1,⟨x0,x1,x2,x3⟩,xn,xmin,xmax,xk⟩=(xk==0)):=by
    rw[Hid]
    simp only[zAg,hset]
    simp[hz]
   clear hset hz
   go_enter Tryz.func150,Tryz.ntmps150
   go_wp2_with fail
   go_ret
   exact⟨by rw[HG.out];rfl,(by repeat (first|exact zL9 _ _|assumption|refine zMb ?_|refine zMZ ?_ (by first|(simp;done)|(simp;omega)|omega) _|refine zMa ?_ (by first|(simp;done)|(simp;omega)|omega) _))⟩
  ·have hq:=zAk (0:Int) (0:Int) (0:Int) (0:Int) (0:Int) xn xmin xmax (0:Int) false (by rw[eq_comm,decide_eq_false_iff_not];omega)
   have HG:Hid (zAg ⟨1,⟨x0,x1,x2,x3⟩,xn,xmin,xmax,xk⟩=false):=by
    rw[Hid]
    simp only[zAg,hset]
    simp
    omega
   clear hset hz
   go_enter Tryz.func150,Tryz.ntmps150
   go_wp2_with fail
   go_ret
   exact⟨by rw[HG.out];rfl,(by repeat (first|exact zL9 _ _|assumption|refine zMb ?_|refine zMZ ?_ (by first|(simp;done)|(simp;omega)|omega) _|refine zMa ?_ (by first|(simp;done)|(simp;omega)|omega) _))⟩
 by_cases h7:op=7
 ·subst h7
  by_cases hz:x0.toNat=0∧x1.toNat=0∧x2.toNat=0∧x3.toNat=0∧xmin=0∧xmax=0
  ·have hq:=zAk (0:Int) ((x0.toNat:Nat):Int) ((x1.toNat:Nat):Int) ((x2.toNat:Nat):Int) ((x3.toNat:Nat):Int) (0:Int) xmin xmax (0:Int) true (by rw[eq_comm,decide_eq_true_eq];omega)
   have HG:Hid (zAg ⟨7,⟨x0,x1,x2,x3⟩,xn,xmin,xmax,xk⟩=(xk==1)):=by
    rw[Hid]
    simp only[zAg,hset]
    simp[hz]
   clear hset hz
   go_enter Tryz.func150,Tryz.ntmps150
   go_wp2_with fail
   go_ret
   exact⟨by rw[HG.out];rfl,(by repeat (first|exact zL9 _ _|assumption|refine zMb ?_|refine zMZ ?_ (by first|(simp;done)|(simp;omega)|omega) _|refine zMa ?_ (by first|(simp;done)|(simp;omega)|omega) _))⟩
  ·have hq:=zAk (0:Int) ((x0.toNat:Nat):Int) ((x1.toNat:Nat):Int) ((x2.toNat:Nat):Int) ((x3.toNat:Nat):Int) (0:Int) xmin xmax (0:Int) false (by rw[eq_comm,decide_eq_false_iff_not];omega)
   have HG:Hid (zAg ⟨7,⟨x0,x1,x2,x3⟩,xn,xmin,xmax,xk⟩=false):=by
    rw[Hid]
    simp only[zAg,hset]
    simp
    omega
   clear hset hz
   go_enter Tryz.func150,Tryz.ntmps150
   go_wp2_with fail
   go_ret
   exact⟨by rw[HG.out];rfl,(by repeat (first|exact zL9 _ _|assumption|refine zMb ?_|refine zMZ ?_ (by first|(simp;done)|(simp;omega)|omega) _|refine zMa ?_ (by first|(simp;done)|(simp;omega)|omega) _))⟩
 by_cases h8:op=8
 ·subst h8
  by_cases hz:x0.toNat=0∧x1.toNat=0∧x2.toNat=0∧x3.toNat=0∧xmin=0∧xmax=0
  ·have hq:=zAk (0:Int) ((x0.toNat:Nat):Int) ((x1.toNat:Nat):Int) ((x2.toNat:Nat):Int) ((x3.toNat:Nat):Int) (0:Int) xmin xmax (0:Int) true (by rw[eq_comm,decide_eq_true_eq];omega)
   have HG:Hid (zAg ⟨8,⟨x0,x1,x2,x3⟩,xn,xmin,xmax,xk⟩=(xk==0)):=by
    rw[Hid]
    simp only[zAg,hset]
    simp[hz]
   clear hset hz
   go_enter Tryz.func150,Tryz.ntmps150
   go_wp2_with fail
   go_ret
   exact⟨by rw[HG.out];rfl,(by repeat (first|exact zL9 _ _|assumption|refine zMb ?_|refine zMZ ?_ (by first|(simp;done)|(simp;omega)|omega) _|refine zMa ?_ (by first|(simp;done)|(simp;omega)|omega) _))⟩
  ·have hq:=zAk (0:Int) ((x0.toNat:Nat):Int) ((x1.toNat:Nat):Int) ((x2.toNat:Nat):Int) ((x3.toNat:Nat):Int) (0:Int) xmin xmax (0:Int) false (by rw[eq_comm,decide_eq_false_iff_not];omega)
   have HG:Hid (zAg ⟨8,⟨x0,x1,x2,x3⟩,xn,xmin,xmax,xk⟩=false):=by
    rw[Hid]
    simp only[zAg,hset]
    simp
    omega
   clear hset hz
   go_enter Tryz.func150,Tryz.ntmps150
   go_wp2_with fail
   go_ret
   exact⟨by rw[HG.out];rfl,(by repeat (first|exact zL9 _ _|assumption|refine zMb ?_|refine zMZ ?_ (by first|(simp;done)|(simp;omega)|omega) _|refine zMa ?_ (by first|(simp;done)|(simp;omega)|omega) _))⟩
 by_cases h2:op=2
 ·subst h2
  by_cases hz:x0.toNat=0∧x1.toNat=0∧x2.toNat=0∧x3.toNat=0∧xn=0∧xmin=0∧xmax=0
  ·have hq:=zAk (0:Int) ((x0.toNat:Nat):Int) ((x1.toNat:Nat):Int) ((x2.toNat:Nat):Int) ((x3.toNat:Nat):Int) xn xmin xmax (0:Int) true (by rw[eq_comm,decide_eq_true_eq];omega)
   have HG:Hid (zAg ⟨2,⟨x0,x1,x2,x3⟩,xn,xmin,xmax,xk⟩=(xk==0)):=by
    rw[Hid]
    simp only[zAg,hset]
    simp[hz]
   clear hset hz
   go_enter Tryz.func150,Tryz.ntmps150
   go_wp2_with fail
   go_ret
   exact⟨by rw[HG.out];rfl,(by repeat (first|exact zL9 _ _|assumption|refine zMb ?_|refine zMZ ?_ (by first|(simp;done)|(simp;omega)|omega) _|refine zMa ?_ (by first|(simp;done)|(simp;omega)|omega) _))⟩
  ·have hq:=zAk (0:Int) ((x0.toNat:Nat):Int) ((x1.toNat:Nat):Int) ((x2.toNat:Nat):Int) ((x3.toNat:Nat):Int) xn xmin xmax (0:Int) false (by rw[eq_comm,decide_eq_false_iff_not];omega)
   have HG:Hid (zAg ⟨2,⟨x0,x1,x2,x3⟩,xn,xmin,xmax,xk⟩=false):=by
    rw[Hid]
    simp only[zAg,hset]
    simp
    omega
   clear hset hz
   go_enter Tryz.func150,Tryz.ntmps150
   go_wp2_with fail
   go_ret
   exact⟨by rw[HG.out];rfl,(by repeat (first|exact zL9 _ _|assumption|refine zMb ?_|refine zMZ ?_ (by first|(simp;done)|(simp;omega)|omega) _|refine zMa ?_ (by first|(simp;done)|(simp;omega)|omega) _))⟩
 by_cases h3:op=3
 ·subst h3
  by_cases hz:x0.toNat=0∧x1.toNat=0∧x2.toNat=0∧x3.toNat=0∧xn=0∧xmin=0∧xmax=0
  ·have hq:=zAk (0:Int) ((x0.toNat:Nat):Int) ((x1.toNat:Nat):Int) ((x2.toNat:Nat):Int) ((x3.toNat:Nat):Int) xn xmin xmax (0:Int) true (by rw[eq_comm,decide_eq_true_eq];omega)
   have HG:Hid (zAg ⟨3,⟨x0,x1,x2,x3⟩,xn,xmin,xmax,xk⟩=(xk==0)):=by
    rw[Hid]
    simp only[zAg,hset]
    simp[hz]
   clear hset hz
   go_enter Tryz.func150,Tryz.ntmps150
   go_wp2_with fail
   go_ret
   exact⟨by rw[HG.out];rfl,(by repeat (first|exact zL9 _ _|assumption|refine zMb ?_|refine zMZ ?_ (by first|(simp;done)|(simp;omega)|omega) _|refine zMa ?_ (by first|(simp;done)|(simp;omega)|omega) _))⟩
  ·have hq:=zAk (0:Int) ((x0.toNat:Nat):Int) ((x1.toNat:Nat):Int) ((x2.toNat:Nat):Int) ((x3.toNat:Nat):Int) xn xmin xmax (0:Int) false (by rw[eq_comm,decide_eq_false_iff_not];omega)
   have HG:Hid (zAg ⟨3,⟨x0,x1,x2,x3⟩,xn,xmin,xmax,xk⟩=false):=by
    rw[Hid]
    simp only[zAg,hset]
    simp
    omega
   clear hset hz
   go_enter Tryz.func150,Tryz.ntmps150
   go_wp2_with fail
   go_ret
   exact⟨by rw[HG.out];rfl,(by repeat (first|exact zL9 _ _|assumption|refine zMb ?_|refine zMZ ?_ (by first|(simp;done)|(simp;omega)|omega) _|refine zMa ?_ (by first|(simp;done)|(simp;omega)|omega) _))⟩
 by_cases h4:op=4
 ·subst h4
  by_cases hz:x0.toNat=0∧x1.toNat=0∧x2.toNat=0∧x3.toNat=0∧xn=0∧xmin=0∧xmax=0
  ·have hq:=zAk (0:Int) ((x0.toNat:Nat):Int) ((x1.toNat:Nat):Int) ((x2.toNat:Nat):Int) ((x3.toNat:Nat):Int) xn xmin xmax (0:Int) true (by rw[eq_comm,decide_eq_true_eq];omega)
   have HG:Hid (zAg ⟨4,⟨x0,x1,x2,x3⟩,xn,xmin,xmax,xk⟩=(xk==0||decide (2≤xk))):=by
    rw[Hid]
    simp only[zAg,hset]
    simp[hz]
   clear hset hz
   by_cases hk0:xk=0
   ·subst hk0
    go_enter Tryz.func150,Tryz.ntmps150
    go_wp2_with fail
    go_ret
    exact⟨by rw[HG.out];rfl,(by repeat (first|exact zL9 _ _|assumption|refine zMb ?_|refine zMZ ?_ (by first|(simp;done)|(simp;omega)|omega) _|refine zMa ?_ (by first|(simp;done)|(simp;omega)|omega) _))⟩
   ·have hk1:(xk==0)=false:=by simpa using hk0
    rw[hk1]at HG
    go_enter Tryz.func150,Tryz.ntmps150
    go_wp2_with fail
    go_ret
    exact⟨by rw[HG.out];rfl,(by repeat (first|exact zL9 _ _|assumption|refine zMb ?_|refine zMZ ?_ (by first|(simp;done)|(simp;omega)|omega) _|refine zMa ?_ (by first|(simp;done)|(simp;omega)|omega) _))⟩
  ·have hq:=zAk (0:Int) ((x0.toNat:Nat):Int) ((x1.toNat:Nat):Int) ((x2.toNat:Nat):Int) ((x3.toNat:Nat):Int) xn xmin xmax (0:Int) false (by rw[eq_comm,decide_eq_false_iff_not];omega)
   have HG:Hid (zAg ⟨4,⟨x0,x1,x2,x3⟩,xn,xmin,xmax,xk⟩=false):=by
    rw[Hid]
    simp only[zAg,hset]
    simp
    omega
   clear hset hz
   go_enter Tryz.func150,Tryz.ntmps150
   go_wp2_with fail
   go_ret
   exact⟨by rw[HG.out];rfl,(by repeat (first|exact zL9 _ _|assumption|refine zMb ?_|refine zMZ ?_ (by first|(simp;done)|(simp;omega)|omega) _|refine zMa ?_ (by first|(simp;done)|(simp;omega)|omega) _))⟩
 by_cases h5:op=5
 ·subst h5
  by_cases hz:x0.toNat=0∧x1.toNat=0∧x2.toNat=0∧x3.toNat=0∧xn=0∧xmin=0∧xmax=0
  ·have hq:=zAk (0:Int) ((x0.toNat:Nat):Int) ((x1.toNat:Nat):Int) ((x2.toNat:Nat):Int) ((x3.toNat:Nat):Int) xn xmin xmax (0:Int) true (by rw[eq_comm,decide_eq_true_eq];omega)
   have HG:Hid (zAg ⟨5,⟨x0,x1,x2,x3⟩,xn,xmin,xmax,xk⟩=decide (2≤xk)):=by
    rw[Hid]
    simp only[zAg,hset]
    simp[hz]
   clear hset hz
   go_enter Tryz.func150,Tryz.ntmps150
   go_wp2_with fail
   go_ret
   exact⟨by rw[HG.out];rfl,(by repeat (first|exact zL9 _ _|assumption|refine zMb ?_|refine zMZ ?_ (by first|(simp;done)|(simp;omega)|omega) _|refine zMa ?_ (by first|(simp;done)|(simp;omega)|omega) _))⟩
  ·have hq:=zAk (0:Int) ((x0.toNat:Nat):Int) ((x1.toNat:Nat):Int) ((x2.toNat:Nat):Int) ((x3.toNat:Nat):Int) xn xmin xmax (0:Int) false (by rw[eq_comm,decide_eq_false_iff_not];omega)
   have HG:Hid (zAg ⟨5,⟨x0,x1,x2,x3⟩,xn,xmin,xmax,xk⟩=false):=by
    rw[Hid]
    simp only[zAg,hset]
    simp
    omega
   clear hset hz
   go_enter Tryz.func150,Tryz.ntmps150
   go_wp2_with fail
   go_ret
   exact⟨by rw[HG.out];rfl,(by repeat (first|exact zL9 _ _|assumption|refine zMb ?_|refine zMZ ?_ (by first|(simp;done)|(simp;omega)|omega) _|refine zMa ?_ (by first|(simp;done)|(simp;omega)|omega) _))⟩
 by_cases h6:op=6
 ·subst h6
  by_cases r1:xmin<0
  ·have r1':=r1
   have HG:Hid (zAg ⟨6,⟨x0,x1,x2,x3⟩,xn,xmin,xmax,xk⟩=false):=by
    rw[Hid]
    simp only[zAg,hset]
    simp
    omega
   clear hset
   go_enter Tryz.func150,Tryz.ntmps150
   go_wp2_with fail
   go_ret
   exact⟨by rw[HG.out];rfl,(by repeat (first|exact zL9 _ _|assumption|refine zMb ?_|refine zMZ ?_ (by first|(simp;done)|(simp;omega)|omega) _|refine zMa ?_ (by first|(simp;done)|(simp;omega)|omega) _))⟩
  by_cases r2:255<xmin
  ·have r2':=r2
   have HG:Hid (zAg ⟨6,⟨x0,x1,x2,x3⟩,xn,xmin,xmax,xk⟩=false):=by
    rw[Hid]
    simp only[zAg,hset]
    simp
    omega
   clear hset
   go_enter Tryz.func150,Tryz.ntmps150
   go_wp2_with fail
   go_ret
   exact⟨by rw[HG.out];rfl,(by repeat (first|exact zL9 _ _|assumption|refine zMb ?_|refine zMZ ?_ (by first|(simp;done)|(simp;omega)|omega) _|refine zMa ?_ (by first|(simp;done)|(simp;omega)|omega) _))⟩
  by_cases r3:xmax= -1
  ·subst r3
   by_cases hz:x0.toNat=0∧x1.toNat=0∧x2.toNat=0∧x3.toNat=0∧xn=0
   ·have hq:=zAk (0:Int) ((x0.toNat:Nat):Int) ((x1.toNat:Nat):Int) ((x2.toNat:Nat):Int) ((x3.toNat:Nat):Int) xn (0:Int) (0:Int) (0:Int) true (by rw[eq_comm,decide_eq_true_eq];omega)
    have HG:Hid (zAg ⟨6,⟨x0,x1,x2,x3⟩,xn,xmin,(-1),xk⟩=(xk==1)):=by
     rw[Hid]
     simp only[zAg,hset]
     simp[hz]
     omega
    clear hset hz
    go_enter Tryz.func150,Tryz.ntmps150
    go_wp2_with fail
    go_ret
    exact⟨by rw[HG.out];rfl,(by repeat (first|exact zL9 _ _|assumption|refine zMb ?_|refine zMZ ?_ (by first|(simp;done)|(simp;omega)|omega) _|refine zMa ?_ (by first|(simp;done)|(simp;omega)|omega) _))⟩
   ·have hq:=zAk (0:Int) ((x0.toNat:Nat):Int) ((x1.toNat:Nat):Int) ((x2.toNat:Nat):Int) ((x3.toNat:Nat):Int) xn (0:Int) (0:Int) (0:Int) false (by rw[eq_comm,decide_eq_false_iff_not];omega)
    have HG:Hid (zAg ⟨6,⟨x0,x1,x2,x3⟩,xn,xmin,(-1),xk⟩=false):=by
     rw[Hid]
     simp only[zAg,hset]
     simp
     omega
    clear hset hz
    go_enter Tryz.func150,Tryz.ntmps150
    go_wp2_with fail
    go_ret
    exact⟨by rw[HG.out];rfl,(by repeat (first|exact zL9 _ _|assumption|refine zMb ?_|refine zMZ ?_ (by first|(simp;done)|(simp;omega)|omega) _|refine zMa ?_ (by first|(simp;done)|(simp;omega)|omega) _))⟩
  by_cases r4:xmax<xmin
  ·have r4':=r4
   have HG:Hid (zAg ⟨6,⟨x0,x1,x2,x3⟩,xn,xmin,xmax,xk⟩=false):=by
    rw[Hid]
    simp only[zAg,hset]
    simp
    omega
   clear hset
   go_enter Tryz.func150,Tryz.ntmps150
   go_wp2_with fail
   go_ret
   exact⟨by rw[HG.out];rfl,(by repeat (first|exact zL9 _ _|assumption|refine zMb ?_|refine zMZ ?_ (by first|(simp;done)|(simp;omega)|omega) _|refine zMa ?_ (by first|(simp;done)|(simp;omega)|omega) _))⟩
  by_cases r5:255<xmax
  ·have r5':=r5
   have HG:Hid (zAg ⟨6,⟨x0,x1,x2,x3⟩,xn,xmin,xmax,xk⟩=false):=by
    rw[Hid]
    simp only[zAg,hset]
    simp
    omega
   clear hset
   go_enter Tryz.func150,Tryz.ntmps150
   go_wp2_with fail
   go_ret
   exact⟨by rw[HG.out];rfl,(by repeat (first|exact zL9 _ _|assumption|refine zMb ?_|refine zMZ ?_ (by first|(simp;done)|(simp;omega)|omega) _|refine zMa ?_ (by first|(simp;done)|(simp;omega)|omega) _))⟩
  by_cases hz:x0.toNat=0∧x1.toNat=0∧x2.toNat=0∧x3.toNat=0∧xn=0
  ·have hq:=zAk (0:Int) ((x0.toNat:Nat):Int) ((x1.toNat:Nat):Int) ((x2.toNat:Nat):Int) ((x3.toNat:Nat):Int) xn (0:Int) (0:Int) (0:Int) true (by rw[eq_comm,decide_eq_true_eq];omega)
   have HG:Hid (zAg ⟨6,⟨x0,x1,x2,x3⟩,xn,xmin,xmax,xk⟩=(xk==1)):=by
    rw[Hid]
    simp only[zAg,hset]
    simp[hz]
    omega
   clear hset hz
   go_enter Tryz.func150,Tryz.ntmps150
   go_wp2_with fail
   go_ret
   exact⟨by rw[HG.out];rfl,(by repeat (first|exact zL9 _ _|assumption|refine zMb ?_|refine zMZ ?_ (by first|(simp;done)|(simp;omega)|omega) _|refine zMa ?_ (by first|(simp;done)|(simp;omega)|omega) _))⟩
  ·have hq:=zAk (0:Int) ((x0.toNat:Nat):Int) ((x1.toNat:Nat):Int) ((x2.toNat:Nat):Int) ((x3.toNat:Nat):Int) xn (0:Int) (0:Int) (0:Int) false (by rw[eq_comm,decide_eq_false_iff_not];omega)
   have HG:Hid (zAg ⟨6,⟨x0,x1,x2,x3⟩,xn,xmin,xmax,xk⟩=false):=by
    rw[Hid]
    simp only[zAg,hset]
    simp
    omega
   clear hset hz
   go_enter Tryz.func150,Tryz.ntmps150
   go_wp2_with fail
   go_ret
   exact⟨by rw[HG.out];rfl,(by repeat (first|exact zL9 _ _|assumption|refine zMb ?_|refine zMZ ?_ (by first|(simp;done)|(simp;omega)|omega) _|refine zMa ?_ (by first|(simp;done)|(simp;omega)|omega) _))⟩
 have HG:Hid (zAg ⟨op,⟨x0,x1,x2,x3⟩,xn,xmin,xmax,xk⟩=false):=by
  rw[Hid]
  simp only[zAg]
  have:(decide (1≤op)&&decide (op≤8))=false:=by simp;omega
  rw[this]
  simp
 clear hset
 go_enter Tryz.func150,Tryz.ntmps150
 go_wp2_with fail
 go_ret
 exact⟨by rw[HG.out];rfl,(by repeat (first|exact zL9 _ _|assumption|refine zMb ?_|refine zMZ ?_ (by first|(simp;done)|(simp;omega)|omega) _|refine zMa ?_ (by first|(simp;done)|(simp;omega)|omega) _))⟩
end Go.Proofs.YtfcemodgopdkkaaGreatDoor
